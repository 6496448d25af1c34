/- Parts: TEP2, TEP3, TEP4, TEP5, TEP6, TEPureRexShows. -/
import Derived.Test.YtcdennkoccjacaaDoorAM1
import Derived.Test.YtcdennkoccjacaaDoorAF3
import Derived.Test.YtcdennkoccjacaaDoorAF4
import Derived.Test.YtcdennkoccjacaaDoorAF2
import Derived.Test.YtcdennkoccjacaaDoorAF5
/- The text of a set. -/
namespace Go.Avl.TE
open Go Go.RowKit Go.Proofs Go.Avl
set_option linter.all false
set_option maxRecDepth 10000

def spx (s : S71) : List Int := eb INS s.f0 ++ (if s.f0 < s.f1 then 45 :: eb INS s.f1 else [])
def spt : List S71 → List Int
  | [] => []
  | s :: S => spx s ++ spt S
theorem eb_len (ot : List Int) (c : Int) : (eb ot c).length ≤ 4 := by
  unfold eb
  repeat' split
  all_goals simp
theorem spx_len (s : S71) : (spx s).length ≤ 9 := by
  have h1 := eb_len INS s.f0
  have h2 := eb_len INS s.f1
  unfold spx
  split <;> simp <;> omega
theorem spt_len : ∀ S : List S71, (spt S).length ≤ 9 * S.length
  | [] => by simp [spt]
  | s :: S => by
    have h1 := spx_len s
    have h2 := spt_len S
    simp [spt]; omega
theorem spx_by {s : S71} (h0 : 0 ≤ s.f0) (h1 : s.f0 ≤ s.f1) (h2 : s.f1 < 256) : By (spx s) := by
  unfold spx
  refine (eb_by ⟨h0, by omega⟩).app ?_
  split
  · exact .cons (by omega) (eb_by ⟨by omega, h2⟩)
  · exact .nil
theorem spt_by : ∀ {S : List S71}, (∀ s ∈ S, 0 ≤ s.f0 ∧ s.f0 ≤ s.f1 ∧ s.f1 < 256) → By (spt S)
  | [], _ => .nil
  | s :: S, h => by
    obtain ⟨h0, h1, h2⟩ := h s (by simp)
    exact (spx_by h0 h1 h2).app (spt_by fun t ht => h t (by simp [ht]))
theorem lget_s (S : List S71) (i : Nat) (h : i < S.length) : lget S (i : Int) = S[i] := by simp [lget, List.getD, List.getElem?_eq_getElem h]
theorem rset_l {S : List S71} (hS : ∀ s ∈ S, 0 ≤ s.f0 ∧ s.f0 ≤ s.f1 ∧ s.f1 < 256) (hz : S.length ≤ 256) : ∀ (m i fuel : Nat) (x : List Int), i + m = S.length → m < fuel → x.length ≤ 9 * i + 10 → rex_set_l2 KK S fuel (B x) (i : Int) = some (B (x ++ spt (S.drop i) ++ [93]))
  | 0, i, f + 1, x, hi, _, hx => by
    rw [rex_set_l2.eq_2, if_neg (by omega), List.drop_of_length_le (by omega), spt, List.append_nil]
    unfold rex_set_c0
    rw [if_pos (by rw [B_size]; show x.length + 1 ≤ _; omega), B_app]; rfl
  | m + 1, i, f + 1, x, hi, hf, hx => by
    have hi' : i < S.length := by omega
    obtain ⟨h0, h1, h2⟩ := hS S[i] (List.getElem_mem hi')
    have l1 := eb_len INS S[i].f0
    have l2 := eb_len INS S[i].f1
    have ls := spx_len S[i]
    have ih := rset_l hS hz m (i + 1) f (x ++ spx S[i]) (by omega) (by omega) (by simp; omega)
    rw [rex_set_l2.eq_2, if_pos (by omega), if_pos ⟨by omega, by omega⟩, lget_s S i hi', (ebi_eq ⟨h0, by omega⟩).1, Option.bind_some, if_pos (by rw [B_size, B_size]; omega), List.drop_eq_getElem_cons hi', spt]
    rw [← List.append_assoc x (spx S[i])]
    by_cases q : S[i].f0 < S[i].f1
    · rw [if_pos q, (ebi_eq ⟨by omega, h2⟩).1, Option.bind_some, if_pos (by rw [B_size]; show 1 + _ ≤ _; omega), if_pos (by rw [ByteArray.size_append, ByteArray.size_append, B_size, B_size, B_size]; show _ + (1 + _) ≤ _; omega)]
      unfold rex_set_c1
      rw [w6 (by omega) (by omega)]
      have e : B x ++ B (eb INS S[i].f0) ++ (ByteArray.mk #[45] ++ B (eb INS S[i].f1)) = B (x ++ spx S[i]) := by
        unfold spx
        rw [if_pos q, B_app, B_app, show (45 : Int) :: eb INS S[i].f1 = [45] ++ eb INS S[i].f1 from rfl, B_app, app_assoc]; rfl
      rw [e]
      exact_mod_cast ih
    · rw [if_neg q]
      unfold rex_set_c1
      rw [w6 (by omega) (by omega)]
      have e : B x ++ B (eb INS S[i].f0) = B (x ++ spx S[i]) := by
        unfold spx
        rw [if_neg q, List.append_nil, B_app]
      rw [e]
      exact_mod_cast ih
theorem rset3 {a : Vector Int 4} (ha : U a) : ∃ S, Good S ∧ (∀ x, Cov S x ↔ x ∈ ll a) ∧ S.length ≤ 256 ∧ ∀ x : List Int, x.length ≤ 10 → rex_set_c3 KK a (B x) = some (B (x ++ spt S ++ [93])) := by
  obtain ⟨S, s1, s2, s3, s4⟩ := spans_eq ha
  refine ⟨S, s2, s3, s4, fun x hx => ?_⟩
  have := rset_l s2.1 s4 S.length 0 KK x (by omega) (by show _ < 200000; omega) (by omega)
  unfold rex_set_c3
  rw [s1, Option.bind_some]
  exact this
/-! The document's text. -/
theorem set4_l {a : Vector Int 4} (ha : U a) (rec14 : ByteArray → Int → Option ByteArray) (x12 : ByteArray) (x13 : Int) {t : Nat} (ht : t < 256) (hstop : t = 255 ∨ tb a (t + 1) = false) : ∀ (m y fuel : Nat), y + m = t → m < fuel → (∀ z, y ≤ z → z ≤ t → tb a z = true) → bosketref04_set_l4 KK rec14 a x12 x13 fuel (y : Int) = bosketref04_set_c3 KK rec14 x12 x13 (t : Int)
  | 0, y, f + 1, hy, _, _ => by
    have : y = t := by omega
    subst this
    rw [bosketref04_set_l4.eq_2]
    rcases hstop with h | h
    · rw [if_neg (by omega), Option.bind_some, if_neg (by decide)]
    · by_cases q : (y : Int) < 255
      · rw [if_pos q, w6 (by omega) (by omega), show ((y : Int) + 1) = ((y + 1 : Nat) : Int) by omega, rhas_eq ha (by omega), Option.bind_some, Option.bind_some, h, if_neg (by decide)]
      · rw [if_neg q, Option.bind_some, if_neg (by decide)]
  | m + 1, y, f + 1, hy, hf, hc => by
    have ih := set4_l ha rec14 x12 x13 ht hstop m (y + 1) f (by omega) (by omega) (fun z h1 h2 => hc z (by omega) h2)
    rw [bosketref04_set_l4.eq_2, if_pos (by omega), w6 (by omega) (by omega), show ((y : Int) + 1) = ((y + 1 : Nat) : Int) by omega, rhas_eq ha (by omega), Option.bind_some, Option.bind_some, hc (y + 1) (by omega) (by omega), if_pos rfl]
    exact ih
theorem set5_l {a : Vector Int 4} (ha : U a) : ∀ (m b fuel : Nat) (S : List S71) (x : List Int), b + m = 256 → m < fuel → Good S → (∀ s ∈ S, (b : Int) ≤ s.f0) → (∀ y : Nat, b ≤ y → y < 256 → (tb a y = true ↔ Cov S (y : Int))) → x.length + 9 * S.length ≤ 10000 → bosketref04_set_l5 KK a fuel (B x) (b : Int) = some (B (x ++ spt S ++ [93]))
  | m, b, f + 1, S, x, hb, hf, hg, hS, hc, hx => by
    rw [bosketref04_set_l5.eq_2]
    by_cases q : b < 256
    · have hcb := hc b (Nat.le_refl _) q
      rw [if_pos (by omega), rhas_eq ha q, Option.bind_some]
      cases e : tb a b with
      | false =>
        rw [if_pos (by rfl)]
        have ih := set5_l ha (m - 1) (b + 1) f S x (by omega) (by omega) hg (fun s hs => by
          have h1 := hS s hs
          have h2 := hg.1 s hs
          by_cases r : s.f0 = (b : Int)
          · have : Cov S (b : Int) := ⟨s, hs, by omega, by omega⟩
            rw [hcb.2 this] at e; cases e
          · omega) (fun y h1 h2 => hc y (by omega) h2) hx
        unfold bosketref04_set_c1
        rw [w6 (by omega) (by omega)]
        exact_mod_cast ih
      | true =>
        rw [if_neg (by decide)]
        obtain ⟨s, hs, k1, k2⟩ := hcb.1 e
        cases S with
        | nil => cases hs
        | cons s0 S' =>
          obtain ⟨g1, g2, g3⟩ := hg.1 s0 (by simp)
          have hp := List.pairwise_cons.1 hg.2
          have h0 := hS s0 (by simp)
          have e0 : s0.f0 = (b : Int) := by
            rcases List.mem_cons.1 hs with rfl | hs'
            · omega
            · have := hp.1 s hs'; omega
          obtain ⟨t, ht⟩ : ∃ t : Nat, s0.f1 = (t : Int) := ⟨s0.f1.toNat, by omega⟩
          have l1 := eb_len INS s0.f0
          have l2 := eb_len INS s0.f1
          have hcov : ∀ z : Nat, b ≤ z → z ≤ t → tb a z = true := fun z h1 h2 => (hc z h1 (by omega)).2 ⟨s0, by simp, by omega, by omega⟩
          have hstop : t = 255 ∨ tb a (t + 1) = false := by
            by_cases r : t = 255
            · exact .inl r
            · right
              cases z : tb a (t + 1) with
              | false => rfl
              | true =>
                obtain ⟨u, hu, u1, u2⟩ := (hc (t + 1) (by omega) (by omega)).1 z
                rcases List.mem_cons.1 hu with rfl | hu'
                · omega
                · have := hp.1 u hu'; omega
          rw [set4_l ha _ _ _ (t := t) (by omega) hstop (t - b) b KK (by omega) (by show _ < 200000; omega) hcov]
          have ih := set5_l ha (256 - (t + 1)) (t + 1) f S' (x ++ spx s0) (by omega) (by omega) ⟨fun u hu => hg.1 u (by simp [hu]), hp.2⟩ (fun u hu => by have := hp.1 u hu; omega) (fun y h1 h2 => by
            rw [hc y (by omega) h2]
            constructor
            · rintro ⟨u, hu, u1, u2⟩
              rcases List.mem_cons.1 hu with rfl | hu'
              · omega
              · exact ⟨u, hu', u1, u2⟩
            · rintro ⟨u, hu, u1, u2⟩
              exact ⟨u, by simp [hu], u1, u2⟩) (by have := spx_len s0; simp at hx ⊢; omega)
          unfold bosketref04_set_c3
          rw [w8_id (by omega) (by omega), w8_id (by omega) (by omega), ← e0, ← ht, (ebi_eq ⟨g1, by omega⟩).2, Option.bind_some, if_pos (by rw [B_size, B_size]; omega), spt, ← List.append_assoc x (spx s0)]
          by_cases r : s0.f0 < s0.f1
          · have e : B x ++ B (eb INS s0.f0) ++ ByteArray.mk #[45] ++ B (eb INS s0.f1) = B (x ++ spx s0) := by
              unfold spx
              rw [if_pos r, B_app, B_app, show (45 : Int) :: eb INS s0.f1 = [45] ++ eb INS s0.f1 from rfl, B_app, app_assoc, app_assoc]; rfl
            rw [if_pos r, if_pos (by rw [ByteArray.size_append, B_size, B_size]; show _ + 1 ≤ _; omega), (ebi_eq ⟨by omega, g3⟩).2, Option.bind_some, if_pos (by rw [ByteArray.size_append, ByteArray.size_append, B_size, B_size, B_size]; show _ + 1 + _ ≤ _; omega), e]
            unfold bosketref04_set_c2 bosketref04_set_c1
            rw [w6 (by omega) (by omega), ht]
            exact_mod_cast ih
          · have e : B x ++ B (eb INS s0.f0) = B (x ++ spx s0) := by
              unfold spx
              rw [if_neg r, List.append_nil, B_app]
            rw [if_neg r, e]
            unfold bosketref04_set_c2 bosketref04_set_c1
            rw [w6 (by omega) (by omega), ht]
            exact_mod_cast ih
    · rw [if_neg (by omega)]
      cases S with
      | nil =>
        rw [spt, List.append_nil]
        unfold bosketref04_set_c0
        rw [if_pos (by rw [B_size]; show x.length + 1 ≤ _; omega), B_app]; rfl
      | cons s S' =>
        have h1 := hS s (by simp)
        have h2 := hg.1 s (by simp)
        omega
theorem set6 {a : Vector Int 4} (ha : U a) {S : List S71} (hg : Good S) (hc : ∀ x, Cov S x ↔ x ∈ ll a) (hz : S.length ≤ 256) (x : List Int) (hx : x.length ≤ 10) : bosketref04_set_c6 KK a (B x) = some (B (x ++ spt S ++ [93])) :=
  set5_l ha 256 0 KK S x (by omega) (by show _ < 200000; omega) hg (fun s hs => (hg.1 s hs).1) (fun y _ hy => by rw [hc, ll_mem a y hy]) (by omega)
end Go.Avl.TE
/- The text of a set, and how it is read. -/
namespace Go.Avl.TE
open Go Go.RowKit Go.Proofs Go.Avl
set_option linter.all false
set_option maxRecDepth 10000

theorem drop_get {l : List Int} {n : Nat} {y : Int} {r : List Int} (e : l.drop n = y :: r) : l[n]? = some y := by
  have := congrArg (fun m : List Int => m[0]?) e
  simpa [List.getElem?_drop] using this
theorem drop_add {l X r : List Int} {n : Nat} (e : l.drop n = X ++ r) : l.drop (n + X.length) = r := by
  rw [← List.drop_drop, e, List.drop_left]
theorem eb_head {ot : List Int} (h92 : (92 : Int) ∉ ot) (c : Int) : ∃ y X, eb ot c = y :: X ∧ y ∉ ot := by
  unfold eb
  by_cases a : c = 10
  · rw [if_pos a]; exact ⟨_, _, rfl, h92⟩
  rw [if_neg a]
  by_cases a : c = 9
  · rw [if_pos a]; exact ⟨_, _, rfl, h92⟩
  rw [if_neg a]
  by_cases a : c = 13
  · rw [if_pos a]; exact ⟨_, _, rfl, h92⟩
  rw [if_neg a]
  by_cases a : c < 32 ∨ 126 < c
  · rw [if_pos a]; exact ⟨_, _, rfl, h92⟩
  rw [if_neg a]
  by_cases a : c = 92
  · rw [if_pos a]; exact ⟨_, _, rfl, h92⟩
  rw [if_neg a]
  by_cases a : c ∈ ot
  · rw [if_pos a]; exact ⟨_, _, rfl, h92⟩
  · rw [if_neg a]; exact ⟨_, _, rfl, a⟩
theorem i1 : ints (ByteArray.mk #[124, 41, 42, 43, 63, 93, 47, 34]) = [124, 41, 42, 43, 63, 93, 47, 34] := by decide
theorem i2 : ints (ByteArray.mk #[93]) = [93] := by decide
theorem i3 : ints (ByteArray.mk #[94, 45, 47, 34]) = [94, 45, 47, 34] := by decide
theorem i4 : ints (ByteArray.mk #[93, 94, 45, 47, 34]) = [93, 94, 45, 47, 34] := by decide
theorem i5 : ints (ByteArray.mk #[124, 41]) = [124, 41] := by decide
def SPC : List Int := [124, 41, 42, 43, 63, 93, 47, 34]
theorem one_start {l : List Int} (hl : By l) (hz : l.length ≤ 100000) {n : Nat} {y : Int} (hy : l[n]? = some y) (h : y ∉ SPC) (d : Int) : rex_reader_end KK (st l n d) (ByteArray.mk #[124, 41, 42, 43, 63, 93, 47, 34]) = some false := by
  rw [end_some hl hy _ (by decide), i1, decide_eq_false (show y ∉ [124, 41, 42, 43, 63, 93, 47, 34] from h)]
/-! Brackets. -/
theorem br_l {l : List Int} (hl : By l) (hz : l.length ≤ 100000) (t2 : Bool × S49) (d : Int) {r : List Int} : ∀ (S : List S71) (fuel n : Nat) (x : Vector Int 4), S.length < fuel → (∀ s ∈ S, 0 ≤ s.f0 ∧ s.f0 ≤ s.f1 ∧ s.f1 < 256) → l.drop n = spt S ++ 93 :: r → U x →
    ∃ y, rex_reader_brackets_l3 KK t2 fuel (B l) (n : Int) d x = rex_reader_brackets_c1 KK t2 (B l) ((n + (spt S).length : Nat) : Int) d y ∧ U y ∧ ∀ b : Nat, b < 256 → (tb y b = true ↔ tb x b = true ∨ Cov S (b : Int))
  | [], f + 1, n, x, _, _, e, hx => by
    have hg := drop_get (show l.drop n = 93 :: r from e)
    rw [rex_reader_brackets_l3.eq_2, show S49.mk (B l) (n : Int) d = st l n d from rfl, end_some hl hg _ (by decide), i2, decide_eq_true (by decide), Option.bind_some, if_neg (by decide)]
    refine ⟨x, rfl, hx, fun b _ => ⟨.inl, fun k => k.elim id fun k => ?_⟩⟩
    obtain ⟨s, hs, _⟩ := k; cases hs
  | s :: S, f + 1, n, x, hf, hS, e, hx => by
    obtain ⟨h0, h1, h2⟩ := hS s (by simp)
    obtain ⟨c, X, ec, hc⟩ := eb_head (ot := INS) (by decide) s.f0
    have e0 : l.drop n = eb INS s.f0 ++ ((if s.f0 < s.f1 then 45 :: eb INS s.f1 else []) ++ spt S ++ 93 :: r) := by rw [e, spt, spx]; simp only [List.append_assoc]
    have hg : l[n]? = some c := drop_get (show l.drop n = c :: (X ++ _) by rw [e0, ec]; rfl)
    have hc' : c ≠ 47 ∧ c ≠ 93 ∧ c ≠ 94 ∧ c ≠ 45 ∧ c ≠ 34 := by simpa [INS] using hc
    obtain ⟨fr, hfr⟩ : ∃ q : Nat, s.f0 = (q : Int) := ⟨s.f0.toNat, by omega⟩
    obtain ⟨to, hto⟩ : ∃ q : Nat, s.f1 = (q : Int) := ⟨s.f1.toNat, by omega⟩
    have hmid := drop_add e0
    have fin : ∀ (m : Nat), l.drop m = spt S ++ 93 :: r → m = n + (spx s).length → ∃ y, (byteset_Range KK s.f0 s.f1).bind (fun t36 => (byteset_Or KK x t36).bind fun t37 => rex_reader_brackets_l3 KK t2 f (B l) (m : Int) d t37) = rex_reader_brackets_c1 KK t2 (B l) ((n + (spt (s :: S)).length : Nat) : Int) d y ∧ U y ∧ ∀ b : Nat, b < 256 → (tb y b = true ↔ tb x b = true ∨ Cov (s :: S) (b : Int)) := by
      intro m em hm
      obtain ⟨g, g1, g2, g3⟩ := range_eq (f := fr) (t := to) (by omega) (by omega)
      obtain ⟨o, o1, o2, o3⟩ := or_eq hx g2
      obtain ⟨y, y1, y2, y3⟩ := br_l hl hz t2 d S f m o (by simpa using hf) (fun u hu => hS u (by simp [hu])) em o2
      refine ⟨y, ?_, y2, fun b hb => ?_⟩
      · rw [hfr, hto, g1, Option.bind_some, o1, Option.bind_some, y1, hm, spt, List.length_append, Nat.add_assoc]
      · rw [y3 b hb, o3 b hb, Bool.or_eq_true, g3 b hb, decide_eq_true_eq]
        constructor
        · rintro ((k | k) | k)
          · exact .inl k
          · exact .inr ⟨s, by simp, by omega, by omega⟩
          · obtain ⟨u, hu, k⟩ := k; exact .inr ⟨u, by simp [hu], k⟩
        · rintro (k | ⟨u, hu, k⟩)
          · exact .inl (.inl k)
          · rcases List.mem_cons.1 hu with rfl | hu
            · exact .inl (.inr ⟨by omega, by omega⟩)
            · exact .inr ⟨u, hu, k⟩
    rw [rex_reader_brackets_l3.eq_2, show S49.mk (B l) (n : Int) d = st l n d from rfl, end_some hl hg _ (by decide), i2, decide_eq_false (by simp [hc'.2.1]), Option.bind_some, if_pos (by rfl), end_some hl hg _ (by decide), i3, decide_eq_false (by simp [hc'.2.2.1, hc'.2.2.2.1, hc'.1, hc'.2.2.2.2]), Option.bind_some, if_neg (by decide),
      byte_eq (.inr rfl) ⟨h0, by omega⟩ hl hz e0, Option.bind_some, if_neg (by simp)]
    by_cases q : s.f0 < s.f1
    · rw [if_pos q] at hmid
      have h45 : l[n + (eb INS s.f0).length]? = some 45 := drop_get (show _ = 45 :: (eb INS s.f1 ++ (spt S ++ 93 :: r)) by rw [hmid]; simp)
      have e1 : l.drop (n + (eb INS s.f0).length + 1) = eb INS s.f1 ++ (spt S ++ 93 :: r) := by
        have := drop_add (X := [45]) (r := eb INS s.f1 ++ (spt S ++ 93 :: r)) (show l.drop (n + (eb INS s.f0).length) = [45] ++ _ by rw [hmid]; simp)
        exact this
      obtain ⟨c2, X2, ec2, hc2⟩ := eb_head (ot := INS) (by decide) s.f1
      have hg2 : l[n + (eb INS s.f0).length + 1]? = some c2 := drop_get (show _ = c2 :: (X2 ++ _) by rw [e1, ec2]; rfl)
      have hc2' : c2 ≠ 47 ∧ c2 ≠ 93 ∧ c2 ≠ 94 ∧ c2 ≠ 45 ∧ c2 ≠ 34 := by simpa [INS] using hc2
      rw [eat_yes hl hz h45, Option.bind_some, if_pos rfl, end_some hl hg2 _ (by decide), i4, decide_eq_false (by simp [hc2'.1, hc2'.2.1, hc2'.2.2.1, hc2'.2.2.2.1, hc2'.2.2.2.2]), Option.bind_some, if_neg (by decide), byte_eq (.inr rfl) ⟨by omega, h2⟩ hl hz e1, Option.bind_some]
      simp only [Bool.not_true, Bool.false_eq_true, if_false, Option.bind_some]
      rw [decide_eq_false (by omega), if_neg (by decide)]
      unfold rex_reader_brackets_c2
      have hl9 : (spx s).length = (eb INS s.f0).length + 1 + (eb INS s.f1).length := by unfold spx; rw [if_pos q]; simp; omega
      exact fin (n + (eb INS s.f0).length + 1 + (eb INS s.f1).length) (drop_add e1) (by omega)
    · rw [if_neg q] at hmid
      have e1 : l.drop (n + (eb INS s.f0).length) = spt S ++ 93 :: r := by rw [hmid]; simp
      have hno : l[n + (eb INS s.f0).length]? ≠ some 45 := by
        cases S with
        | nil => rw [drop_get (show _ = 93 :: r from e1)]; decide
        | cons u S' =>
          obtain ⟨c3, X3, ec3, hc3⟩ := eb_head (ot := INS) (by decide) u.f0
          have : l[n + (eb INS s.f0).length]? = some c3 := drop_get (r := X3 ++ ((if u.f0 < u.f1 then 45 :: eb INS u.f1 else []) ++ (spt S' ++ 93 :: r))) (by rw [e1, spt, spx, ec3]; simp)
          rw [this]
          intro k
          have : c3 = 45 := Option.some.inj k
          subst this
          exact hc3 (by decide)
      rw [eat_no hl hz hno, Option.bind_some, if_neg (by simp)]
      unfold rex_reader_brackets_c2
      have hl9 : (spx s).length = (eb INS s.f0).length := by unfold spx; rw [if_neg q]; simp
      have es : s.f0 = s.f1 := by omega
      have := fin (n + (eb INS s.f0).length) e1 (by omega)
      rw [← es] at this
      exact this
/-- What a set's text is good for. -/
structure SX (s : Vector Int 4) (X : List Int) : Prop where
  t1 : rex_set KK s = some (B X)
  t2 : bosketref04_set KK s = some (B X)
  by_ : By X
  len : X.length ≤ 3000
  hd : ∃ y Y, X = y :: Y ∧ y ∉ SPC
  rd : ∀ (l : List Int) (n : Nat) (d : Int) (r : List Int) (j : Nat), By l → l.length ≤ 100000 → l.drop n = X ++ r → rex_reader_one_r KK (j + 1) (st l n d) = some ([S40.mk 1 s], true, st l (n + X.length) d)
def FU : Vector Int 4 := Vector.replicate 4 18446744073709551615
theorem full_FU : byteset_Full KK = some FU := by decide +kernel
theorem ll_FU : (ll FU).length = 256 := by decide +kernel
theorem U_FU : U FU := by
  obtain ⟨c, c1, c2, _⟩ := full_eq
  have : byteset_Full KK = some c := c1
  rw [full_FU] at this
  rw [Option.some.inj this]; exact c2
theorem tb_FU : ∀ x, x < 256 → tb FU x = true := by
  obtain ⟨c, c1, _, c3⟩ := full_eq
  have : byteset_Full KK = some c := c1
  rw [full_FU] at this
  rw [Option.some.inj this]; exact c3
theorem nodup_lenE : ∀ (n : Nat) (L : List Int), L.Nodup → (∀ x ∈ L, 0 ≤ x ∧ x < (n : Int)) → L.length ≤ n
  | 0, L, _, h => by
    cases L with
    | nil => simp
    | cons x L => have := h x (by simp); omega
  | n + 1, L, hn, h => by
    have ih := nodup_lenE n (L.erase (n : Int)) (hn.erase _) (fun x hx => by
      rw [hn.mem_erase_iff] at hx
      have := h x hx.2
      omega)
    by_cases q : (n : Int) ∈ L
    · rw [List.length_erase_of_mem q] at ih; omega
    · rw [List.erase_of_not_mem q] at ih; omega
theorem ll_nodup (a : Vector Int 4) : (ll a).Nodup := (ll_sorted a).imp fun h => by omega
theorem ll_full {a : Vector Int 4} (ha : U a) : (ll a).length = 256 ↔ a = FU := by
  constructor
  · intro h
    refine ext_tb ha U_FU fun x hx => ?_
    rw [tb_FU x hx, ← ll_mem a x hx]
    by_cases q : (x : Int) ∈ ll a
    · exact q
    · have := nodup_lenE 256 ((x : Int) :: ll a) (List.nodup_cons.2 ⟨q, ll_nodup a⟩) (fun y hy => by
        rcases List.mem_cons.1 hy with rfl | hy
        · omega
        · exact ll_lt a y hy)
      simp at this; omega
  · rintro rfl; exact ll_FU
theorem set_ex {a : Vector Int 4} (ha : U a) (hne : a ≠ VZ) : ∃ X, SX a X := by
  have hnn : (ll a).length ≠ 0 := fun e => hne (ext_tb ha U_zero fun x hx => by
    show tb a x = tb (Vector.replicate 4 (0 : Int)) x
    rw [tb_zero x hx]
    have : (x : Int) ∉ ll a := by rw [List.length_eq_zero_iff.1 e]; simp
    rw [ll_mem a x hx] at this
    simpa using this)
  have hle := ll_len a
  by_cases q : a = FU
  · have h256 := (ll_full ha).2 q
    refine ⟨[46], ?_, ?_, .cons (by omega) .nil, by decide, ⟨46, [], rfl, by decide⟩, ?_⟩
    · unfold rex_set; rw [full_FU, Option.bind_some, if_pos q]; rfl
    · unfold bosketref04_set
      rw [rlist_eq ha, Option.bind_some, if_pos (by omega)]; rfl
    · intro l n d r j hl hz e
      have hg : l[n]? = some 46 := drop_get e
      rw [rex_reader_one_r.eq_2, one_start hl hz hg (by decide), Option.bind_some, if_neg (by decide), eat_yes hl hz hg, Option.bind_some, if_pos rfl, full_FU, Option.bind_some, q]; rfl
  have h256 : (ll a).length ≠ 256 := fun e => q ((ll_full ha).1 e)
  by_cases k : (ll a).length = 1
  · obtain ⟨c, hc⟩ := List.length_eq_one_iff.1 k
    have hcr := ll_lt a c (by rw [hc]; simp)
    obtain ⟨y, Y, ey, hy⟩ := eb_head (ot := OUT) (by decide) c
    have hy' : y ≠ 47 ∧ y ≠ 40 ∧ y ≠ 41 ∧ y ≠ 91 ∧ y ≠ 93 ∧ y ≠ 124 ∧ y ≠ 42 ∧ y ≠ 43 ∧ y ≠ 63 ∧ y ≠ 46 ∧ y ≠ 34 ∧ y ≠ 126 := by simpa [OUT] using hy
    obtain ⟨n1, n2, n3, n4, n5, n6, n7, n8, n9, n10, n11, n12⟩ := hy'
    have hsp : y ∉ SPC := by simp [SPC, n1, n3, n5, n6, n7, n8, n9, n11]
    refine ⟨eb OUT c, ?_, ?_, eb_by hcr, by have := eb_len OUT c; omega, ⟨y, Y, ey, hsp⟩, ?_⟩
    · unfold rex_set
      rw [full_FU, Option.bind_some, if_neg q, len_eq ha, Option.bind_some, if_pos (by omega), first_eq ha, Option.bind_some, hc]
      show (escape_Byte KK (w8 c) _).bind _ = _
      rw [w8_id (by omega) (by omega), (ebo_eq hcr).1]; rfl
    · unfold bosketref04_set
      rw [rlist_eq ha, Option.bind_some, if_neg (by omega), if_pos (by omega), if_pos ⟨by omega, by omega⟩, hc]
      show (bosketref03_Byte KK c _).bind _ = _
      rw [(ebo_eq hcr).2]; rfl
    · intro l n d r j hl hz e
      have hg : l[n]? = some y := drop_get (r := Y ++ r) (by rw [e, ey]; rfl)
      have ne : ∀ z : Int, y ≠ z → l[n]? ≠ some z := fun z h k => h (Option.some.inj (hg.symm.trans k))
      obtain ⟨o, o1, o2, o3⟩ := of_l [c] (fun b hb => by have : b = c := by simpa using hb
                                                         omega) (by simp) 1 0 200000 _ (by simp) (by omega) U_zero
      have eo : o = a := ext_tb o2 ha fun x hx => by
        rw [o3 x hx, tb_zero x hx, Bool.false_or, List.drop_zero, Bool.eq_iff_iff, decide_eq_true_iff, ← ll_mem a x hx, hc]
      have o1' : byteset_Of KK [c] = some a := by rw [← eo]; exact o1
      rw [rex_reader_one_r.eq_2, one_start hl hz hg hsp, Option.bind_some, if_neg (by decide), eat_no hl hz (ne _ n10), Option.bind_some, if_neg (by simp), eat_no hl hz (ne _ n12), Option.bind_some, if_neg (by simp), eat_no hl hz (ne _ n2), Option.bind_some, if_neg (by simp), eat_no hl hz (ne _ n4), Option.bind_some, if_neg (by simp), byte_eq (.inl rfl) hcr hl hz e, Option.bind_some, o1', Option.bind_some]
  · have rd91 : ∀ (l : List Int) (n : Nat) (d : Int) (r : List Int) (j : Nat), By l → l.length ≤ 100000 → l[n]? = some 91 → rex_reader_one_r KK (j + 1) (st l n d) = (rex_reader_brackets KK (st l (n + 1) d)).bind fun t31 => some (t31.1, t31.2.1, t31.2.2) := by
      intro l n d r j hl hz hg
      have ne : ∀ z : Int, (91 : Int) ≠ z → l[n]? ≠ some z := fun z h k => h (Option.some.inj (hg.symm.trans k))
      rw [rex_reader_one_r.eq_2, one_start hl hz hg (by decide), Option.bind_some, if_neg (by decide), eat_no hl hz (ne _ (by decide)), Option.bind_some, if_neg (by simp), eat_no hl hz (ne _ (by decide)), Option.bind_some, if_neg (by simp), eat_no hl hz (ne _ (by decide)), Option.bind_some, if_neg (by simp), eat_yes hl hz hg, Option.bind_some, if_pos rfl]
    have c0 : ∀ (l : List Int) (m : Nat) (d : Int), By l → l.length ≤ 100000 → l[m]? = some 93 → rex_reader_brackets_c0 KK (B l) (m : Int) d a = some ([S40.mk 1 a], true, st l (m + 1) d) := by
      intro l m d hl hz hg
      unfold rex_reader_brackets_c0
      rw [show S49.mk (B l) (m : Int) d = st l m d from rfl, eat_yes hl hz hg, Option.bind_some, if_pos rfl, empty_eq ha, Option.bind_some, decide_eq_false (by omega)]; rfl
    by_cases big : 128 < (ll a).length
    · obtain ⟨b, b1, b2, b3⟩ := not_eq ha
      obtain ⟨b', b1', b2', b3'⟩ := rput_eq 3 ha ha
      have eb' : b' = b := ext_tb b2' b2 fun x hx => by rw [b3' x hx, b3 x hx]; rfl
      rw [eb'] at b1'
      obtain ⟨S, s1, s2, s3, s4⟩ := rset3 b2
      have hsl := spt_len S
      refine ⟨[91, 94] ++ spt S ++ [93], ?_, ?_, ((By.cons (by omega) (.cons (by omega) .nil)).app (spt_by s1.1)).app (.cons (by omega) .nil), by simp; omega, ⟨91, 94 :: (spt S ++ [93]), rfl, by decide⟩, ?_⟩
      · unfold rex_set
        rw [full_FU, Option.bind_some, if_neg q, len_eq ha, Option.bind_some, if_neg (by omega), Option.bind_some, if_pos (by omega), b1, Option.bind_some]
        exact s4 [91, 94] (by decide)
      · unfold bosketref04_set
        rw [rlist_eq ha, Option.bind_some, if_neg (by omega), if_neg (by omega), if_pos (by omega), b1', Option.bind_some]
        exact set6 b2 s1 s2 s3 [91, 94] (by decide)
      · intro l n d r j hl hz e
        have e' : l.drop n = [91, 94] ++ (spt S ++ 93 :: r) := by rw [e]; simp
        have h91 : l[n]? = some 91 := drop_get (r := 94 :: (spt S ++ 93 :: r)) e'
        have h94 : l[n + 1]? = some 94 := drop_get (r := spt S ++ 93 :: r) (drop_add (X := [91]) (r := 94 :: (spt S ++ 93 :: r)) e')
        have e2 := drop_add e'
        obtain ⟨y, y1, y2, y3⟩ := br_l hl hz (true, st l (n + 1 + 1) d) d S KK (n + 2) VZ (by show _ < 200000; omega) s1.1 e2 U_zero
        have ey : y = b := ext_tb y2 b2 fun x hx => by
          rw [Bool.eq_iff_iff, y3 x hx, s2, ll_mem b x hx]
          exact ⟨fun k => k.elim (fun k => by rw [show tb VZ x = false from tb_zero x hx] at k; cases k) id, .inr⟩
        obtain ⟨z, z1, z2, z3⟩ := not_eq b2
        have ez : z = a := ext_tb z2 ha fun x hx => by rw [z3 x hx, b3 x hx, Bool.not_not]
        have z1' : byteset_Not KK b = some a := by rw [← ez]; exact z1
        have h93 : l[n + 2 + (spt S).length]? = some 93 := drop_get (r := r) (drop_add (X := spt S) (r := 93 :: r) e2)
        rw [rd91 l n d r j hl hz h91]
        unfold rex_reader_brackets
        rw [eat_yes hl hz h94, Option.bind_some]
        have y1' : rex_reader_brackets_l3 KK (true, st l (n + 1 + 1) d) KK (true, st l (n + 1 + 1) d).2.f0 (true, st l (n + 1 + 1) d).2.f1 (true, st l (n + 1 + 1) d).2.f2 (Vector.replicate 4 (0 : Int)) = _ := y1
        rw [y1', ey]
        unfold rex_reader_brackets_c1
        rw [if_pos rfl, z1', Option.bind_some, c0 l _ d hl hz h93, Option.bind_some, show n + ([91, 94] ++ spt S ++ [93] : List Int).length = n + 2 + (spt S).length + 1 by simp; omega]
    · obtain ⟨S, s1, s2, s3, s4⟩ := rset3 ha
      have hsl := spt_len S
      refine ⟨[91] ++ spt S ++ [93], ?_, ?_, ((By.cons (by omega) .nil).app (spt_by s1.1)).app (.cons (by omega) .nil), by simp; omega, ⟨91, spt S ++ [93], rfl, by decide⟩, ?_⟩
      · unfold rex_set
        rw [full_FU, Option.bind_some, if_neg q, len_eq ha, Option.bind_some, if_neg (by omega), Option.bind_some, if_neg (by omega)]
        exact s4 [91] (by decide)
      · unfold bosketref04_set
        rw [rlist_eq ha, Option.bind_some, if_neg (by omega), if_neg (by omega), if_neg (by omega)]
        exact set6 ha s1 s2 s3 [91] (by decide)
      · intro l n d r j hl hz e
        have e' : l.drop n = [91] ++ (spt S ++ 93 :: r) := by rw [e]; simp
        have h91 : l[n]? = some 91 := drop_get (r := spt S ++ 93 :: r) e'
        have e2 := drop_add e'
        have h94 : l[n + 1]? ≠ some 94 := by
          cases S with
          | nil => rw [drop_get (show l.drop (n + 1) = 93 :: r from e2)]; decide
          | cons u S' =>
            obtain ⟨c3, X3, ec3, hc3⟩ := eb_head (ot := INS) (by decide) u.f0
            have : l[n + 1]? = some c3 := drop_get (r := X3 ++ ((if u.f0 < u.f1 then 45 :: eb INS u.f1 else []) ++ (spt S' ++ 93 :: r))) (by
              have e3 : l.drop (n + 1) = spt (u :: S') ++ 93 :: r := e2
              rw [e3, spt, spx, ec3]; simp)
            rw [this]
            intro k
            have : c3 = 94 := Option.some.inj k
            subst this
            exact hc3 (by decide)
        obtain ⟨y, y1, y2, y3⟩ := br_l hl hz (false, st l (n + 1) d) d S KK (n + 1) VZ (by show _ < 200000; omega) s1.1 e2 U_zero
        have ey : y = a := ext_tb y2 ha fun x hx => by
          rw [Bool.eq_iff_iff, y3 x hx, s2, ll_mem a x hx]
          exact ⟨fun k => k.elim (fun k => by rw [show tb VZ x = false from tb_zero x hx] at k; cases k) id, .inr⟩
        have h93 : l[n + 1 + (spt S).length]? = some 93 := drop_get (r := r) (drop_add (X := spt S) (r := 93 :: r) e2)
        rw [rd91 l n d r j hl hz h91]
        unfold rex_reader_brackets
        rw [eat_no hl hz h94, Option.bind_some]
        have y1' : rex_reader_brackets_l3 KK (false, st l (n + 1) d) KK (false, st l (n + 1) d).2.f0 (false, st l (n + 1) d).2.f1 (false, st l (n + 1) d).2.f2 (Vector.replicate 4 (0 : Int)) = _ := y1
        rw [y1', ey]
        unfold rex_reader_brackets_c1
        rw [if_neg (by simp), c0 l _ d hl hz h93, Option.bind_some, show n + ([91] ++ spt S ++ [93] : List Int).length = n + 1 + (spt S).length + 1 by simp; omega]
end Go.Avl.TE
/- The text of a regular expression. -/
namespace Go.Avl.TE
open Go Go.RowKit Go.Proofs Go.Avl
set_option linter.all false
set_option maxRecDepth 10000

open Classical in
noncomputable def sx (s : Vector Int 4) : List Int := if h : ∃ X, SX s X then Classical.choose h else []
theorem sx_ok {s : Vector Int 4} (h : U s) (hne : s ≠ VZ) : SX s (sx s) := by
  have e := set_ex h hne
  unfold sx
  rw [dif_pos e]
  exact Classical.choose_spec e
def wr (c : Bool) (X : List Int) : List Int := if c = true then 40 :: (X ++ [41]) else X
def opc (k : Int) : Int := if k = 4 then 42 else if k = 5 then 43 else 63
def w3 (t : Rx) : Bool := decide (kind t = 3)
def w23 (t : Rx) : Bool := decide (kind t = 2 ∨ kind t = 3)
noncomputable def tx : Rx → List Int
  | .non => [126]
  | .one s => sx s
  | .cat a b => wr (w3 a) (tx a) ++ wr (w23 b) (tx b)
  | .alt a b => tx a ++ 124 :: wr (w3 b) (tx b)
  | .un k a => wr (w23 a) (tx a) ++ [opc k]
theorem wr_len (c : Bool) (X : List Int) : (wr c X).length ≤ X.length + 2 := by cases c <;> simp [wr]
theorem wr_by {c : Bool} {X : List Int} (h : By X) : By (wr c X) := by
  cases c
  · exact h
  · exact .cons (by omega) (h.app (.cons (by omega) .nil))
theorem tx_len : ∀ t : Rx, ROK t → (tx t).length ≤ 3010 * (ser t).length
  | .non, _ => by simp [tx, ser]
  | .one s, h => by have := (sx_ok h.1 h.2).len; simp [tx, ser]; omega
  | .cat a b, h => by
    have h1 := tx_len a h.1
    have h2 := tx_len b h.2
    have h3 := wr_len (w3 a) (tx a)
    have h4 := wr_len (w23 b) (tx b)
    simp [tx, ser]; omega
  | .alt a b, h => by
    have h1 := tx_len a h.1
    have h2 := tx_len b h.2
    have h4 := wr_len (w3 b) (tx b)
    simp [tx, ser]; omega
  | .un k a, h => by
    have h1 := tx_len a h.2.2
    have h4 := wr_len (w23 a) (tx a)
    simp [tx, ser]; omega
theorem opc_by (k : Int) : 0 ≤ opc k ∧ opc k ≤ 255 := by unfold opc; repeat' split
                                                         all_goals omega
theorem tx_by : ∀ t : Rx, ROK t → By (tx t)
  | .non, _ => .cons (by omega) .nil
  | .one s, h => (sx_ok h.1 h.2).by_
  | .cat a b, h => (wr_by (tx_by a h.1)).app (wr_by (tx_by b h.2))
  | .alt a b, h => (tx_by a h.1).app (.cons (by omega) (wr_by (tx_by b h.2)))
  | .un k a, h => (wr_by (tx_by a h.2.2)).app (.cons (opc_by k) .nil)
def sgt (k : Int) : Int := if k = 3 then 0 else if k = 2 then 1 else if k = 4 ∨ k = 5 ∨ k = 6 then 2 else 3
theorem strength_eq (k : Int) : rex_strength KK k = some (sgt k) := by
  unfold rex_strength rex_strength_c0 sgt
  by_cases a : k = 3
  · rw [if_pos a, if_pos a]
  rw [if_neg a, if_neg a]
  by_cases a : k = 2
  · rw [if_pos a, if_pos a]
  rw [if_neg a, if_neg a]
  by_cases a : k = 4
  · rw [if_pos a, decide_eq_true a, if_pos rfl, if_pos (.inl a)]
  rw [if_neg a]
  by_cases b : k = 5
  · rw [if_pos b, decide_eq_true b, if_pos rfl, if_pos (.inr (.inl b))]
  rw [if_neg b]
  by_cases c : k = 6
  · rw [decide_eq_true c, if_pos rfl, if_pos (.inr (.inr c))]
  · rw [decide_eq_false c, if_neg (by decide), if_neg (by simp [a, b, c])]
theorem sgt_0 (t : Rx) : decide (sgt (kind t) < 0) = false := by
  unfold sgt
  repeat' split
  all_goals decide
theorem sgt_1 (t : Rx) : decide (sgt (kind t) < 1) = w3 t := by
  unfold sgt w3
  by_cases a : kind t = 3
  · rw [if_pos a, decide_eq_true a]; decide
  · rw [if_neg a, decide_eq_false a]
    repeat' split
    all_goals decide
theorem sgt_2 (t : Rx) : decide (sgt (kind t) < 2) = w23 t := by
  unfold sgt w23
  by_cases a : kind t = 3
  · have e : kind t = 2 ∨ kind t = 3 := .inr a
    rw [if_pos a, decide_eq_true e]; decide
  · by_cases b : kind t = 2
    · have e : kind t = 2 ∨ kind t = 3 := .inl b
      rw [if_neg a, if_pos b, decide_eq_true e]; decide
    · have e : ¬ (kind t = 2 ∨ kind t = 3) := by simp [a, b]
      rw [if_neg a, if_neg b, decide_eq_false e]
      split <;> decide
theorem B_wr (X : List Int) : ByteArray.mk #[40] ++ B X ++ ByteArray.mk #[41] = B (40 :: (X ++ [41])) := by
  rw [show (40 : Int) :: (X ++ [41]) = [40] ++ (X ++ [41]) from rfl, B_app, B_app, app_assoc]; rfl
theorem within_of {t : Rx} (hr : ROK t) (hz : (ser t).length ≤ 100) {j : Nat} (h : rex_show_r KK j (ser t) = some (B (tx t))) (p1 : Int) : rex_within_r KK (j + 1) (ser t) p1 = some (B (wr (decide (sgt (kind t) < p1)) (tx t))) := by
  have hp := ser_pos t
  have hl := tx_len t hr
  rw [rex_within_r.eq_2, h, Option.bind_some, last_ix (by omega), if_pos ⟨by omega, by omega⟩, last_get, strength_eq, Option.bind_some]
  by_cases q : sgt (kind t) < p1
  · rw [if_pos q, decide_eq_true q, if_pos (by rw [B_size]; show 1 + _ ≤ _; omega), if_pos (by rw [ByteArray.size_append, B_size]; show 1 + _ + 1 ≤ _; omega), B_wr]; rfl
  · rw [if_neg q, decide_eq_false q]; rfl
theorem show_eq : ∀ (t : Rx), ROK t → (ser t).length ≤ 100 → ∀ j, 2 * (ser t).length ≤ j → rex_show_r KK j (ser t) = some (B (tx t)) := by
  intro t
  induction t with
  | non =>
    intro hr hz j hj
    obtain ⟨j, rfl⟩ : ∃ i, j = i + 1 := ⟨j - 1, by have := ser_pos Rx.non; omega⟩
    have hp := ser_pos Rx.non
    rw [rex_show_r.eq_2, last_ix (by omega), if_pos ⟨by omega, by omega⟩, parts_eq hr (by omega), Option.bind_some, last_get]
    rfl
  | one s =>
    intro hr hz j hj
    have hp := ser_pos (Rx.one s)
    obtain ⟨j, rfl⟩ : ∃ i, j = i + 1 := ⟨j - 1, by omega⟩
    rw [rex_show_r.eq_2, last_ix (by omega), if_pos ⟨by omega, by omega⟩, parts_eq hr (by omega), Option.bind_some, last_get, if_pos (by rfl)]
    show (rex_set KK s).bind _ = _
    rw [(sx_ok hr.1 hr.2).t1]; rfl
  | cat a b iha ihb =>
    intro hr hz j hj
    have hp := ser_pos (Rx.cat a b)
    have hl : (ser (Rx.cat a b)).length = (ser a).length + (ser b).length + 1 := by simp [ser]; omega
    have pa := ser_pos a
    have pb := ser_pos b
    obtain ⟨j, rfl⟩ : ∃ i, j = i + 1 + 1 := ⟨j - 2, by omega⟩
    have ha := within_of hr.1 (by omega) (iha hr.1 (by omega) j (by omega)) 1
    have hb := within_of hr.2 (by omega) (ihb hr.2 (by omega) j (by omega)) 2
    have la := tx_len a hr.1
    have lb := tx_len b hr.2
    have wa := wr_len (w3 a) (tx a)
    have wb := wr_len (w23 b) (tx b)
    rw [sgt_1] at ha
    rw [sgt_2] at hb
    rw [rex_show_r.eq_2, last_ix (by omega), if_pos ⟨by omega, by omega⟩, parts_eq hr (by omega), Option.bind_some, last_get]
    have hk : kind (Rx.cat a b) = 2 := rfl
    have hq : (parts (Rx.cat a b)).length = 2 := rfl
    dsimp only
    rw [hk, hq, if_neg (by decide), if_pos rfl, if_pos (by decide), show lget (parts (Rx.cat a b)) 0 = ser a from rfl, ha, Option.bind_some, if_pos (by decide), show lget (parts (Rx.cat a b)) 1 = ser b from rfl, hb, Option.bind_some, if_pos (by rw [B_size, B_size]; omega), ← B_app]; rfl
  | alt a b iha ihb =>
    intro hr hz j hj
    have hp := ser_pos (Rx.alt a b)
    have hl : (ser (Rx.alt a b)).length = (ser a).length + (ser b).length + 1 := by simp [ser]; omega
    have pa := ser_pos a
    have pb := ser_pos b
    obtain ⟨j, rfl⟩ : ∃ i, j = i + 1 + 1 := ⟨j - 2, by omega⟩
    have ha := within_of hr.1 (by omega) (iha hr.1 (by omega) j (by omega)) 0
    have hb := within_of hr.2 (by omega) (ihb hr.2 (by omega) j (by omega)) 1
    have la := tx_len a hr.1
    have lb := tx_len b hr.2
    have wb := wr_len (w3 b) (tx b)
    rw [sgt_0] at ha
    rw [sgt_1] at hb
    have e : B (wr false (tx a)) ++ ByteArray.mk #[124] ++ B (wr (w3 b) (tx b)) = B (tx (Rx.alt a b)) := by
      rw [tx, show (124 : Int) :: wr (w3 b) (tx b) = [124] ++ wr (w3 b) (tx b) from rfl, B_app, B_app, app_assoc]; rfl
    rw [rex_show_r.eq_2, last_ix (by omega), if_pos ⟨by omega, by omega⟩, parts_eq hr (by omega), Option.bind_some, last_get]
    have hk : kind (Rx.alt a b) = 3 := rfl
    have hq : (parts (Rx.alt a b)).length = 2 := rfl
    dsimp only
    rw [hk, hq, if_neg (by decide), if_neg (by decide), if_pos rfl, if_pos (by decide), show lget (parts (Rx.alt a b)) 0 = ser a from rfl, ha, Option.bind_some, if_pos (by rw [B_size]; show (tx a).length + 1 ≤ _; omega), if_pos (by decide), show lget (parts (Rx.alt a b)) 1 = ser b from rfl, hb, Option.bind_some, if_pos (by rw [ByteArray.size_append, B_size, B_size]; show (tx a).length + 1 + _ ≤ _; omega), e]
  | un k a iha =>
    intro hr hz j hj
    have hp := ser_pos (Rx.un k a)
    have hl : (ser (Rx.un k a)).length = (ser a).length + 1 := by simp [ser]
    have pa := ser_pos a
    obtain ⟨j, rfl⟩ : ∃ i, j = i + 1 + 1 := ⟨j - 2, by omega⟩
    have ha := within_of hr.2.2 (by omega) (iha hr.2.2 (by omega) j (by omega)) 2
    have la := tx_len a hr.2.2
    have wa := wr_len (w23 a) (tx a)
    rw [sgt_2] at ha
    have hr' := hr
    obtain ⟨k4, k6, _⟩ := hr
    have hk : kind (Rx.un k a) = k := rfl
    have hq : ∀ k, (parts (Rx.un k a)).length = 1 := fun _ => rfl
    rw [rex_show_r.eq_2, last_ix (by omega), if_pos ⟨by omega, by omega⟩, parts_eq hr' (by omega), Option.bind_some, last_get]
    dsimp only
    rw [hk, if_neg (by omega), if_neg (by omega), if_neg (by omega)]
    have hk' : k = 4 ∨ k = 5 ∨ k = 6 := by omega
    rcases hk' with rfl | rfl | rfl
    · rw [if_pos rfl, hq, if_pos (by decide), show lget (parts (Rx.un 4 a)) 0 = ser a from rfl, ha, Option.bind_some, if_pos (by rw [B_size]; show _ + 1 ≤ _; omega), tx, B_app]; rfl
    · rw [if_neg (by decide), if_pos rfl, hq, if_pos (by decide), show lget (parts (Rx.un 5 a)) 0 = ser a from rfl, ha, Option.bind_some, if_pos (by rw [B_size]; show _ + 1 ≤ _; omega), tx, B_app]; rfl
    · rw [if_neg (by decide), if_neg (by decide), if_pos rfl, hq, if_pos (by decide), show lget (parts (Rx.un 6 a)) 0 = ser a from rfl, ha, Option.bind_some, if_pos (by rw [B_size]; show _ + 1 ≤ _; omega), tx, B_app]; rfl
end Go.Avl.TE
/- The document's text of a regular expression. -/
namespace Go.Avl.TE
open Go Go.RowKit Go.Proofs Go.Avl
set_option linter.all false
set_option maxRecDepth 10000

theorem around_eq (c : Bool) {X : List Int} (h : X.length ≤ 1000000) : bosketref04_around KK (B X) c = some (B (wr c X)) := by
  unfold bosketref04_around
  cases c with
  | false => rfl
  | true =>
    rw [if_pos rfl, if_pos (by rw [B_size]; show 1 + _ ≤ _; omega), if_pos (by rw [ByteArray.size_append, B_size]; show 1 + _ + 1 ≤ _; omega), B_wr]; rfl
theorem rs1 {a : Rx} (hz : (ser a).length ≤ 100) (self : List S40 → Option ByteArray) (p : List S40) (h : self (ser a) = some (B (tx a))) (f : Nat) : bosketref04_Show_l1 KK self p [ser a] (f + 1 + 1) [] [] 0 = bosketref04_Show_c0 KK p [B (tx a)] [kind a] := by
  have hp := ser_pos a
  rw [bosketref04_Show_l1.eq_2, if_pos (by simp), if_pos (by simp), show lget [ser a] 0 = ser a from rfl, h, Option.bind_some, if_pos (by simp), if_pos (by simp), if_pos (by simp), last_ix (by omega), if_pos ⟨by omega, by omega⟩, last_get, if_pos (by simp), bosketref04_Show_l1.eq_2, w6 (by omega) (by omega), if_neg (by simp)]
  rfl
theorem rs2 {a b : Rx} (hz : (ser a).length ≤ 100) (hz2 : (ser b).length ≤ 100) (self : List S40 → Option ByteArray) (p : List S40) (h : self (ser a) = some (B (tx a))) (h2 : self (ser b) = some (B (tx b))) (f : Nat) : bosketref04_Show_l1 KK self p [ser a, ser b] (f + 1 + 1 + 1) [] [] 0 = bosketref04_Show_c0 KK p [B (tx a), B (tx b)] [kind a, kind b] := by
  have hp := ser_pos a
  have hp2 := ser_pos b
  rw [bosketref04_Show_l1.eq_2, if_pos (by simp), if_pos (by simp), show lget [ser a, ser b] 0 = ser a from rfl, h, Option.bind_some, if_pos (by simp), if_pos (by simp), if_pos (by simp), last_ix (by omega), if_pos ⟨by omega, by omega⟩, last_get, if_pos (by simp), w6 (by omega) (by omega)]
  rw [bosketref04_Show_l1.eq_2, if_pos (by simp), if_pos (by simp), show lget [ser a, ser b] (0 + 1) = ser b from rfl, h2, Option.bind_some, if_pos (by simp), if_pos (by simp), if_pos (by simp), last_ix (by omega), if_pos ⟨by omega, by omega⟩, last_get, if_pos (by simp), w6 (by omega) (by omega)]
  rw [bosketref04_Show_l1.eq_2, if_neg (by simp)]
  rfl
theorem rshow_eq : ∀ (t : Rx), ROK t → (ser t).length ≤ 100 → ∀ j, (ser t).length ≤ j → bosketref04_Show_r KK j (ser t) = some (B (tx t)) := by
  intro t
  induction t with
  | non =>
    intro hr hz j hj
    have hp := ser_pos Rx.non
    obtain ⟨j, rfl⟩ : ∃ i, j = i + 1 := ⟨j - 1, by omega⟩
    rw [bosketref04_Show_r.eq_2, last_ix (by omega), if_pos ⟨by omega, by omega⟩, rparts_eq hr (by omega), Option.bind_some]
    rfl
  | one s =>
    intro hr hz j hj
    have hp := ser_pos (Rx.one s)
    obtain ⟨j, rfl⟩ : ∃ i, j = i + 1 := ⟨j - 1, by omega⟩
    rw [bosketref04_Show_r.eq_2, last_ix (by omega), if_pos ⟨by omega, by omega⟩, rparts_eq hr (by omega), Option.bind_some, show parts (Rx.one s) = [] from rfl, bosketref04_Show_l1.eq_2, if_neg (by decide)]
    unfold bosketref04_Show_c0
    rw [last_ix (by omega), last_get]
    show (bosketref04_set KK s).bind _ = _
    rw [(sx_ok hr.1 hr.2).t2]; rfl
  | cat a b iha ihb =>
    intro hr hz j hj
    have hp := ser_pos (Rx.cat a b)
    have hl : (ser (Rx.cat a b)).length = (ser a).length + (ser b).length + 1 := by simp [ser]; omega
    have pa := ser_pos a
    have pb := ser_pos b
    obtain ⟨j, rfl⟩ : ∃ i, j = i + 1 := ⟨j - 1, by omega⟩
    have ha := iha hr.1 (by omega) j (by omega)
    have hb := ihb hr.2 (by omega) j (by omega)
    have la := tx_len a hr.1
    have lb := tx_len b hr.2
    have wa := wr_len (w3 a) (tx a)
    have wb := wr_len (w23 b) (tx b)
    have hk : kind (Rx.cat a b) = 2 := rfl
    rw [bosketref04_Show_r.eq_2, last_ix (by omega), if_pos ⟨by omega, by omega⟩, rparts_eq hr (by omega), Option.bind_some, show parts (Rx.cat a b) = [ser a, ser b] from rfl, rs2 (by omega) (by omega) _ _ ha hb 199997]
    unfold bosketref04_Show_c0
    rw [last_ix (by omega), last_get]
    dsimp only
    rw [hk, if_neg (by decide), if_neg (by decide), if_pos rfl, if_pos (by simp), if_pos (by simp), show lget [B (tx a), B (tx b)] 0 = B (tx a) from rfl, show lget [kind a, kind b] 0 = kind a from rfl, around_eq _ (by omega), Option.bind_some, if_pos (by simp), if_pos (by simp), show lget [B (tx a), B (tx b)] 1 = B (tx b) from rfl, show lget [kind a, kind b] 1 = kind b from rfl]
    by_cases q : kind b = 2
    · have e : w23 b = true := decide_eq_true (.inl q)
      rw [if_pos q, around_eq _ (by omega), Option.bind_some, ← e, if_pos (by rw [B_size, B_size]; have : w3 a = decide (kind a = 3) := rfl; rw [← this]; omega), Option.bind_some, ← B_app]; rfl
    · have e : decide (kind b = 3) = w23 b := by unfold w23; rw [decide_eq_decide]; exact ⟨.inr, fun k => k.elim (fun k => absurd k q) id⟩
      rw [if_neg q, if_pos (by simp), around_eq _ (by omega), Option.bind_some, e, if_pos (by rw [B_size, B_size]; have : w3 a = decide (kind a = 3) := rfl; rw [← this]; omega), Option.bind_some, ← B_app]; rfl
  | alt a b iha ihb =>
    intro hr hz j hj
    have hp := ser_pos (Rx.alt a b)
    have hl : (ser (Rx.alt a b)).length = (ser a).length + (ser b).length + 1 := by simp [ser]; omega
    have pa := ser_pos a
    have pb := ser_pos b
    obtain ⟨j, rfl⟩ : ∃ i, j = i + 1 := ⟨j - 1, by omega⟩
    have ha := iha hr.1 (by omega) j (by omega)
    have hb := ihb hr.2 (by omega) j (by omega)
    have la := tx_len a hr.1
    have lb := tx_len b hr.2
    have wb := wr_len (w3 b) (tx b)
    have hk : kind (Rx.alt a b) = 3 := rfl
    have e : B (tx a) ++ ByteArray.mk #[124] ++ B (wr (w3 b) (tx b)) = B (tx (Rx.alt a b)) := by
      rw [tx, show (124 : Int) :: wr (w3 b) (tx b) = [124] ++ wr (w3 b) (tx b) from rfl, B_app, B_app, app_assoc]; rfl
    rw [bosketref04_Show_r.eq_2, last_ix (by omega), if_pos ⟨by omega, by omega⟩, rparts_eq hr (by omega), Option.bind_some, show parts (Rx.alt a b) = [ser a, ser b] from rfl, rs2 (by omega) (by omega) _ _ ha hb 199997]
    unfold bosketref04_Show_c0
    rw [last_ix (by omega), last_get]
    dsimp only
    rw [hk, if_neg (by decide), if_neg (by decide), if_neg (by decide), if_pos rfl, if_pos (by simp), show lget [B (tx a), B (tx b)] 0 = B (tx a) from rfl, if_pos (by rw [B_size]; show _ + 1 ≤ _; omega), if_pos (by simp), if_pos (by simp), show lget [B (tx a), B (tx b)] 1 = B (tx b) from rfl, show lget [kind a, kind b] 1 = kind b from rfl, show decide (kind b = 3) = w3 b from rfl, around_eq _ (by omega), Option.bind_some, if_pos (by rw [ByteArray.size_append, B_size, B_size]; show _ + 1 + _ ≤ _; omega), e]
  | un k a iha =>
    intro hr hz j hj
    have hp := ser_pos (Rx.un k a)
    have hl : (ser (Rx.un k a)).length = (ser a).length + 1 := by simp [ser]
    have pa := ser_pos a
    obtain ⟨j, rfl⟩ : ∃ i, j = i + 1 := ⟨j - 1, by omega⟩
    have ha := iha hr.2.2 (by omega) j (by omega)
    have la := tx_len a hr.2.2
    have wa := wr_len (w23 a) (tx a)
    have hr' := hr
    obtain ⟨k4, k6, _⟩ := hr
    have hk : kind (Rx.un k a) = k := rfl
    rw [bosketref04_Show_r.eq_2, last_ix (by omega), if_pos ⟨by omega, by omega⟩, rparts_eq hr' (by omega), Option.bind_some, show parts (Rx.un k a) = [ser a] from rfl, rs1 (by omega) _ _ ha 199998]
    unfold bosketref04_Show_c0
    rw [last_ix (by omega), last_get]
    dsimp only
    have fin : B (wr (w23 a) (tx a)) ++ lget ([ByteArray.mk #[42], ByteArray.mk #[43], ByteArray.mk #[63]] : List ByteArray) (w64 (k - 4)) = B (tx (Rx.un k a)) ∧ (lget ([ByteArray.mk #[42], ByteArray.mk #[43], ByteArray.mk #[63]] : List ByteArray) (w64 (k - 4))).size = 1 := by
      rw [tx, B_app]
      have hk' : k = 4 ∨ k = 5 ∨ k = 6 := by omega
      rcases hk' with rfl | rfl | rfl <;> exact ⟨rfl, rfl⟩
    have hix : 0 ≤ w64 (k - 4) ∧ w64 (k - 4) < ((([ByteArray.mk #[42], ByteArray.mk #[43], ByteArray.mk #[63]] : List ByteArray).length : Nat) : Int) := by
      rw [w6 (by omega) (by omega)]
      show 0 ≤ k - 4 ∧ k - 4 < 3
      omega
    rw [hk, if_neg (by omega), if_neg (by omega), if_neg (by omega), if_neg (by omega), if_pos (by simp), if_pos (by simp), show lget [B (tx a)] 0 = B (tx a) from rfl, show lget [kind a] 0 = kind a from rfl]
    by_cases q : kind a = 2
    · have e : w23 a = true := decide_eq_true (.inl q)
      rw [if_pos q, around_eq _ (by omega), Option.bind_some, ← e, if_pos hix, if_pos (by rw [fin.2, B_size]; omega), fin.1]
    · have e : decide (kind a = 3) = w23 a := by unfold w23; rw [decide_eq_decide]; exact ⟨.inr, fun k => k.elim (fun k => absurd k q) id⟩
      rw [if_neg q, if_pos (by simp), around_eq _ (by omega), Option.bind_some, e, if_pos hix, if_pos (by rw [fin.2, B_size]; omega), fin.1]
end Go.Avl.TE
/- The text of a regular expression, read back. -/
namespace Go.Avl.TE
open Go Go.RowKit Go.Proofs Go.Avl
set_option linter.all false
set_option maxRecDepth 10000

def hout (r L : List Int) : Prop := ∀ y r', r = y :: r' → y ∉ L
def hin (r L : List Int) : Prop := ∀ y r', r = y :: r' → y ∈ L
theorem hin.out {r L M : List Int} (h : hin r L) (k : ∀ x ∈ L, x ∉ M) : hout r M := fun y r' e => k y (h y r' e)
theorem hout_cons {y : Int} {r L : List Int} (h : y ∉ L) : hout (y :: r) L := fun z r' e => by cases e; exact h
theorem hin_cons {y : Int} {r L : List Int} (h : y ∈ L) : hin (y :: r) L := fun z r' e => by cases e; exact h
theorem hin_nil (L : List Int) : hin [] L := fun y r' e => by cases e
theorem out_get {l r L : List Int} {m : Nat} (e : l.drop m = r) (h : hout r L) {c : Int} (hc : c ∈ L) : l[m]? ≠ some c := fun k => by
  have hm := (List.getElem?_eq_some_iff.1 k).1
  rw [List.drop_eq_getElem_cons hm] at e
  rw [List.getElem?_eq_getElem hm] at k
  exact h _ _ e.symm (by rw [Option.some.inj k]; exact hc)
theorem wr_head {c : Bool} {X : List Int} (h : ∃ y Y, X = y :: Y ∧ y ∉ SPC) : ∃ y Y, wr c X = y :: Y ∧ y ∉ SPC := by
  cases c
  · exact h
  · exact ⟨40, _, rfl, by decide⟩
theorem app_head {X Z : List Int} (h : ∃ y Y, X = y :: Y ∧ y ∉ SPC) : ∃ y Y, X ++ Z = y :: Y ∧ y ∉ SPC := by
  obtain ⟨y, Y, e, hy⟩ := h
  exact ⟨y, Y ++ Z, by rw [e]; rfl, hy⟩
theorem tx_head : ∀ t : Rx, ROK t → ∃ y Y, tx t = y :: Y ∧ y ∉ SPC
  | .non, _ => ⟨126, [], rfl, by decide⟩
  | .one s, h => (sx_ok h.1 h.2).hd
  | .cat a b, h => app_head (wr_head (tx_head a h.1))
  | .alt a b, h => app_head (tx_head a h.1)
  | .un k a, h => app_head (wr_head (tx_head a h.2.2))
section
variable {l : List Int} (hl : By l) (hz : l.length ≤ 100000)
include hl hz
theorem rep_done {t2 : List S40 × Bool × S49} (h2 : t2.2.1 = true) {m : Nat} {r : List Int} (e : l.drop m = r) (hr : hout r [42, 43, 63]) (d : Int) (acc : List S40) {f : Nat} (hf : 0 < f) : rex_reader_repeat_l1 KK t2 f (B l) (m : Int) d acc = some (acc, true, st l m d) := by
  obtain ⟨g, rfl⟩ : ∃ g, f = g + 1 := ⟨f - 1, by omega⟩
  rw [rex_reader_repeat_l1.eq_2, if_pos h2, show S49.mk (B l) (m : Int) d = st l m d from rfl, eat_no hl hz (out_get e hr (by decide)), Option.bind_some, if_neg (by simp), eat_no hl hz (out_get e hr (by decide)), Option.bind_some, if_neg (by simp), eat_no hl hz (out_get e hr (by decide)), Option.bind_some, if_neg (by simp)]
theorem cat_done (self : S49 → Option (List S40 × Bool × S49)) {m : Nat} {r : List Int} (e : l.drop m = r) (hr : hin r [124, 41]) (d : Int) (acc : List S40) {f : Nat} (hf : 0 < f) : rex_reader_cat_l1 KK self f (B l) (m : Int) d acc true = some (acc, true, st l m d) := by
  obtain ⟨g, rfl⟩ : ∃ g, f = g + 1 := ⟨f - 1, by omega⟩
  have he : rex_reader_end KK (st l m d) (ByteArray.mk #[124, 41]) = some true := by
    cases r with
    | nil => exact end_none (List.drop_eq_nil_iff.1 e) _
    | cons y r' => rw [end_some hl (drop_get e) _ (by decide), i5, decide_eq_true (hr y r' rfl)]
  rw [rex_reader_cat_l1.eq_2, if_pos rfl, show S49.mk (B l) (m : Int) d = st l m d from rfl, he, Option.bind_some, Option.bind_some, if_neg (by decide)]; rfl
theorem alt_done (self : S49 → Option (List S40 × Bool × S49)) {m : Nat} {r : List Int} (e : l.drop m = r) (hr : hout r [124]) (d : Int) (acc : List S40) {f : Nat} (hf : 0 < f) : rex_reader_alt_l1 KK self f (B l) (m : Int) d acc true = some (acc, true, st l m d) := by
  obtain ⟨g, rfl⟩ : ∃ g, f = g + 1 := ⟨f - 1, by omega⟩
  rw [rex_reader_alt_l1.eq_2, if_pos rfl, show S49.mk (B l) (m : Int) d = st l m d from rfl, eat_no hl hz (out_get e hr (by decide)), Option.bind_some, Option.bind_some]; rfl
end
/-- What is read of a tree's text. -/
structure RD (l : List Int) (t : Rx) : Prop where
  pa : ∀ (n : Nat) (d : Int) (r : List Int) (j : Nat), 0 ≤ d → d + ((ser t).length : Int) ≤ 99 → l.drop n = tx t ++ r → hin r [124, 41] → 4 * (ser t).length + 2 ≤ j →
    ∃ f, KK ≤ f + (ser t).length ∧ rex_reader_alt_r KK (j + 1) (st l n d) = rex_reader_alt_l1 KK (rex_reader_cat_r KK j) f (B l) ((n + (tx t).length : Nat) : Int) d (ser t) true
  pc : kind t ≠ 3 → ∀ (n : Nat) (d : Int) (r : List Int) (j : Nat), 0 ≤ d → d + ((ser t).length : Int) ≤ 99 → l.drop n = tx t ++ r → hout r [42, 43, 63] → 4 * (ser t).length + 1 ≤ j →
    ∃ f, KK ≤ f + (ser t).length ∧ rex_reader_cat_r KK (j + 1) (st l n d) = rex_reader_cat_l1 KK (rex_reader_repeat_r KK j) f (B l) ((n + (tx t).length : Nat) : Int) d (ser t) true
  pr : kind t ≠ 3 → kind t ≠ 2 → ∀ (n : Nat) (d : Int) (r : List Int) (j : Nat), 0 ≤ d → d + ((ser t).length : Int) ≤ 99 → l.drop n = tx t ++ r → 4 * (ser t).length ≤ j →
    ∃ f t2, t2.2.1 = true ∧ KK ≤ f + (ser t).length ∧ rex_reader_repeat_r KK (j + 1) (st l n d) = rex_reader_repeat_l1 KK t2 f (B l) ((n + (tx t).length : Nat) : Int) d (ser t)
section
variable {l : List Int} (hl : By l) (hz : l.length ≤ 100000) {t : Rx} (hs : (ser t).length ≤ 100)
include hl hz hs
theorem pc_of (pr : ∀ (n : Nat) (d : Int) (r : List Int) (j : Nat), 0 ≤ d → d + ((ser t).length : Int) ≤ 99 → l.drop n = tx t ++ r → 4 * (ser t).length ≤ j →
    ∃ f t2, t2.2.1 = true ∧ KK ≤ f + (ser t).length ∧ rex_reader_repeat_r KK (j + 1) (st l n d) = rex_reader_repeat_l1 KK t2 f (B l) ((n + (tx t).length : Nat) : Int) d (ser t)) :
    ∀ (n : Nat) (d : Int) (r : List Int) (j : Nat), 0 ≤ d → d + ((ser t).length : Int) ≤ 99 → l.drop n = tx t ++ r → hout r [42, 43, 63] → 4 * (ser t).length + 1 ≤ j →
    ∃ f, KK ≤ f + (ser t).length ∧ rex_reader_cat_r KK (j + 1) (st l n d) = rex_reader_cat_l1 KK (rex_reader_repeat_r KK j) f (B l) ((n + (tx t).length : Nat) : Int) d (ser t) true := by
  intro n d r j h0 h1 e hr hj
  obtain ⟨j, rfl⟩ : ∃ i, j = i + 1 := ⟨j - 1, by omega⟩
  obtain ⟨f, t2, a1, a2, a3⟩ := pr n d r j h0 h1 e (by omega)
  have hf : 200000 ≤ f + (ser t).length := a2
  rw [rep_done hl hz a1 (drop_add e) hr d (ser t) (by omega)] at a3
  refine ⟨KK, by omega, ?_⟩
  rw [rex_reader_cat_r.eq_2, a3, Option.bind_some]; rfl
theorem pa_of (pc : ∀ (n : Nat) (d : Int) (r : List Int) (j : Nat), 0 ≤ d → d + ((ser t).length : Int) ≤ 99 → l.drop n = tx t ++ r → hout r [42, 43, 63] → 4 * (ser t).length + 1 ≤ j →
    ∃ f, KK ≤ f + (ser t).length ∧ rex_reader_cat_r KK (j + 1) (st l n d) = rex_reader_cat_l1 KK (rex_reader_repeat_r KK j) f (B l) ((n + (tx t).length : Nat) : Int) d (ser t) true) :
    ∀ (n : Nat) (d : Int) (r : List Int) (j : Nat), 0 ≤ d → d + ((ser t).length : Int) ≤ 99 → l.drop n = tx t ++ r → hin r [124, 41] → 4 * (ser t).length + 2 ≤ j →
    ∃ f, KK ≤ f + (ser t).length ∧ rex_reader_alt_r KK (j + 1) (st l n d) = rex_reader_alt_l1 KK (rex_reader_cat_r KK j) f (B l) ((n + (tx t).length : Nat) : Int) d (ser t) true := by
  intro n d r j h0 h1 e hr hj
  obtain ⟨j, rfl⟩ : ∃ i, j = i + 1 := ⟨j - 1, by omega⟩
  obtain ⟨f, a2, a3⟩ := pc n d r j h0 h1 e (hr.out (by decide)) (by omega)
  have hf : 200000 ≤ f + (ser t).length := a2
  rw [cat_done hl hz _ (drop_add e) hr d (ser t) (by omega)] at a3
  refine ⟨KK, by omega, ?_⟩
  rw [rex_reader_alt_r.eq_2, a3, Option.bind_some]; rfl
theorem one_wr (h : RD l t) {n : Nat} {d : Int} {r : List Int} {j : Nat} (h0 : 0 ≤ d) (h1 : d + ((ser t).length : Int) ≤ 98) (e : l.drop n = wr true (tx t) ++ r) (hj : 4 * (ser t).length + 3 ≤ j) : rex_reader_one_r KK (j + 1) (st l n d) = some (ser t, true, st l (n + (wr true (tx t)).length) d) := by
  have e' : l.drop n = [40] ++ (tx t ++ (41 :: r)) := by rw [e]; simp [wr]
  have h40 : l[n]? = some 40 := drop_get e'
  have ne : ∀ z : Int, (40 : Int) ≠ z → l[n]? ≠ some z := fun z h k => h (Option.some.inj (h40.symm.trans k))
  have e2 := drop_add e'
  have e2' : l.drop (n + 1) = tx t ++ (41 :: r) := e2
  obtain ⟨j, rfl⟩ : ∃ i, j = i + 1 := ⟨j - 1, by omega⟩
  obtain ⟨f, a2, a3⟩ := h.pa (n + 1) (d + 1) (41 :: r) j (by omega) (by omega) e2' (hin_cons (by decide)) (by omega)
  have hf : 200000 ≤ f + (ser t).length := a2
  have e3 := drop_add e2'
  rw [alt_done hl hz _ e3 (hout_cons (by decide)) (d + 1) (ser t) (by omega)] at a3
  have h41 : l[n + 1 + (tx t).length]? = some 41 := drop_get e3
  rw [rex_reader_one_r.eq_2, one_start hl hz h40 (by decide), Option.bind_some, if_neg (by decide), eat_no hl hz (ne _ (by decide)), Option.bind_some, if_neg (by simp), eat_no hl hz (ne _ (by decide)), Option.bind_some, if_neg (by simp), eat_yes hl hz h40, Option.bind_some, if_pos rfl]
  have es : S49.mk (true, st l (n + 1) d).2.f0 (true, st l (n + 1) d).2.f1 (w64 ((true, st l (n + 1) d).2.f2 + 1)) = st l (n + 1) (d + 1) := by
    show S49.mk (B l) ((n + 1 : Nat) : Int) (w64 (d + 1)) = _
    rw [w6 (by omega) (by omega)]; rfl
  have ed : w64 (d + 1 - 1) = d := by rw [w6 (by omega) (by omega)]; omega
  have hlt : w64 ((ser t, true, st l (n + 1 + (tx t).length) (d + 1)).2.2.f2 - 1) < 99 := by
    show w64 (d + 1 - 1) < 99
    rw [ed]; omega
  have hq : rex_reader_eat KK (S49.mk (ser t, true, st l (n + 1 + (tx t).length) (d + 1)).2.2.f0 (ser t, true, st l (n + 1 + (tx t).length) (d + 1)).2.2.f1 (w64 ((ser t, true, st l (n + 1 + (tx t).length) (d + 1)).2.2.f2 - 1))) 41 = some (true, st l (n + 1 + (tx t).length + 1) d) := by
    show rex_reader_eat KK (S49.mk (B l) ((n + 1 + (tx t).length : Nat) : Int) (w64 (d + 1 - 1))) 41 = _
    rw [ed]; exact eat_yes hl hz h41
  have en : n + (wr true (tx t)).length = n + 1 + (tx t).length + 1 := by simp [wr]; omega
  rw [es, a3, Option.bind_some, if_pos rfl, if_pos hlt, hq, Option.bind_some, Option.bind_some, en]
  first | done | rfl
theorem wrep (h : RD l t) {n : Nat} {d : Int} {r : List Int} {j : Nat} (h0 : 0 ≤ d) (h1 : d + ((ser t).length : Int) ≤ 98) (e : l.drop n = wr (w23 t) (tx t) ++ r) (hj : 4 * (ser t).length + 4 ≤ j) :
    ∃ f t2, t2.2.1 = true ∧ KK ≤ f + (ser t).length ∧ rex_reader_repeat_r KK (j + 1) (st l n d) = rex_reader_repeat_l1 KK t2 f (B l) ((n + (wr (w23 t) (tx t)).length : Nat) : Int) d (ser t) := by
  cases q : w23 t with
  | true =>
    rw [q] at e
    obtain ⟨j, rfl⟩ : ∃ i, j = i + 1 := ⟨j - 1, by omega⟩
    refine ⟨KK, _, ?_, by omega, by rw [rex_reader_repeat_r.eq_2, one_wr hl hz hs h h0 h1 e (by omega), Option.bind_some]; rfl⟩
    rfl
  | false =>
    rw [q] at e
    have k : ¬ (kind t = 2 ∨ kind t = 3) := of_decide_eq_false q
    exact h.pr (fun k' => k (.inr k')) (fun k' => k (.inl k')) n d r j h0 (by omega) e (by omega)
theorem wrep_full (h : RD l t) {n : Nat} {d : Int} {r : List Int} {j : Nat} (h0 : 0 ≤ d) (h1 : d + ((ser t).length : Int) ≤ 98) (e : l.drop n = wr (w23 t) (tx t) ++ r) (hr : hout r [42, 43, 63]) (hj : 4 * (ser t).length + 4 ≤ j) :
    rex_reader_repeat_r KK (j + 1) (st l n d) = some (ser t, true, st l (n + (wr (w23 t) (tx t)).length) d) := by
  obtain ⟨f, t2, a1, a2, a3⟩ := wrep hl hz hs h h0 h1 e hj
  have hf : 200000 ≤ f + (ser t).length := a2
  rw [a3, rep_done hl hz a1 (drop_add e) hr d (ser t) (by omega)]
theorem wcat (h : RD l t) {n : Nat} {d : Int} {r : List Int} {j : Nat} (h0 : 0 ≤ d) (h1 : d + ((ser t).length : Int) ≤ 98) (e : l.drop n = wr (w3 t) (tx t) ++ r) (hr : hout r [42, 43, 63]) (hj : 4 * (ser t).length + 5 ≤ j) :
    ∃ f, KK ≤ f + (ser t).length ∧ rex_reader_cat_r KK (j + 1) (st l n d) = rex_reader_cat_l1 KK (rex_reader_repeat_r KK j) f (B l) ((n + (wr (w3 t) (tx t)).length : Nat) : Int) d (ser t) true := by
  cases q : w3 t with
  | true =>
    have k : w23 t = true := decide_eq_true (.inr (of_decide_eq_true q))
    rw [q, ← k] at e
    obtain ⟨j, rfl⟩ : ∃ i, j = i + 1 := ⟨j - 1, by omega⟩
    have := wrep_full hl hz hs h h0 h1 e hr (j := j) (by omega)
    rw [k] at this
    exact ⟨KK, by omega, by rw [rex_reader_cat_r.eq_2, this, Option.bind_some]; rfl⟩
  | false =>
    rw [q] at e
    exact h.pc (of_decide_eq_false q) n d r j h0 (by omega) e hr (by omega)
theorem wcat_full (h : RD l t) {n : Nat} {d : Int} {r : List Int} {j : Nat} (h0 : 0 ≤ d) (h1 : d + ((ser t).length : Int) ≤ 98) (e : l.drop n = wr (w3 t) (tx t) ++ r) (hr : hin r [124, 41]) (hj : 4 * (ser t).length + 5 ≤ j) :
    rex_reader_cat_r KK (j + 1) (st l n d) = some (ser t, true, st l (n + (wr (w3 t) (tx t)).length) d) := by
  obtain ⟨f, a2, a3⟩ := wcat hl hz hs h h0 h1 e (hr.out (by decide)) hj
  have hf : 200000 ≤ f + (ser t).length := a2
  rw [a3, cat_done hl hz _ (drop_add e) hr d (ser t) (by omega)]
end
theorem rd_all {l : List Int} (hl : By l) (hz : l.length ≤ 100000) : ∀ (t : Rx), ROK t → (ser t).length ≤ 100 → RD l t := by
  have atom : ∀ t : Rx, (ser t).length = 1 → (∀ (n : Nat) (d : Int) (r : List Int) (j : Nat), l.drop n = tx t ++ r → rex_reader_one_r KK (j + 1) (st l n d) = some (ser t, true, st l (n + (tx t).length) d)) → RD l t := by
    intro t ht h1
    have pr : ∀ (n : Nat) (d : Int) (r : List Int) (j : Nat), 0 ≤ d → d + ((ser t).length : Int) ≤ 99 → l.drop n = tx t ++ r → 4 * (ser t).length ≤ j →
      ∃ f t2, t2.2.1 = true ∧ KK ≤ f + (ser t).length ∧ rex_reader_repeat_r KK (j + 1) (st l n d) = rex_reader_repeat_l1 KK t2 f (B l) ((n + (tx t).length : Nat) : Int) d (ser t) := by
      intro n d r j h0 _ e hj
      obtain ⟨j, rfl⟩ : ∃ i, j = i + 1 := ⟨j - 1, by omega⟩
      refine ⟨KK, (ser t, true, st l (n + (tx t).length) d), rfl, by omega, ?_⟩
      rw [rex_reader_repeat_r.eq_2, h1 n d r j e, Option.bind_some]; rfl
    have pc := pc_of hl hz (by omega) pr
    exact ⟨pa_of hl hz (by omega) pc, fun _ => pc, fun _ _ => pr⟩
  intro t
  induction t with
  | non =>
    intro _ _
    refine atom _ rfl fun n d r j e => ?_
    have hg : l[n]? = some 126 := drop_get (r := r) e
    rw [rex_reader_one_r.eq_2, one_start hl hz hg (by decide), Option.bind_some, if_neg (by decide), eat_no hl hz (by rw [hg]; decide), Option.bind_some, if_neg (by simp), eat_yes hl hz hg, Option.bind_some, if_pos rfl]
    rfl
  | one s =>
    intro hr _
    exact atom _ rfl fun n d r j e => (sx_ok hr.1 hr.2).rd l n d r j hl hz e
  | un k a iha =>
    intro hr hs
    obtain ⟨k4, k6, ra⟩ := hr
    have hlen : (ser (Rx.un k a)).length = (ser a).length + 1 := by simp [ser]
    have ha := iha ra (by omega)
    have pr : ∀ (n : Nat) (d : Int) (r : List Int) (j : Nat), 0 ≤ d → d + ((ser (Rx.un k a)).length : Int) ≤ 99 → l.drop n = tx (Rx.un k a) ++ r → 4 * (ser (Rx.un k a)).length ≤ j →
      ∃ f t2, t2.2.1 = true ∧ KK ≤ f + (ser (Rx.un k a)).length ∧ rex_reader_repeat_r KK (j + 1) (st l n d) = rex_reader_repeat_l1 KK t2 f (B l) ((n + (tx (Rx.un k a)).length : Nat) : Int) d (ser (Rx.un k a)) := by
      intro n d r j h0 h1 e hj
      have e' : l.drop n = wr (w23 a) (tx a) ++ (opc k :: r) := by rw [e, tx]; simp
      obtain ⟨f, t2, a1, a2, a3⟩ := wrep hl hz (by omega) ha h0 (by omega) e' (j := j) (by omega)
      have hf : 200000 ≤ f + (ser a).length := a2
      obtain ⟨g, rfl⟩ : ∃ g, f = g + 1 := ⟨f - 1, by omega⟩
      refine ⟨g, t2, a1, by omega, ?_⟩
      have hg : l[n + (wr (w23 a) (tx a)).length]? = some (opc k) := drop_get (drop_add e')
      have en : n + (tx (Rx.un k a)).length = n + (wr (w23 a) (tx a)).length + 1 := by simp [tx]; omega
      have hk' : k = 4 ∨ k = 5 ∨ k = 6 := by omega
      have hj1 := join1 k hk' (ser a) (by omega)
      rw [a3, en, rex_reader_repeat_l1.eq_2, if_pos a1, show S49.mk (B l) ((n + (wr (w23 a) (tx a)).length : Nat) : Int) d = st l (n + (wr (w23 a) (tx a)).length) d from rfl]
      rcases hk' with rfl | rfl | rfl
      · rw [eat_yes hl hz (c := 42) hg, Option.bind_some, if_pos rfl, hj1, Option.bind_some]; rfl
      · rw [eat_no hl hz (by rw [hg]; decide), Option.bind_some, if_neg (by simp), eat_yes hl hz (c := 43) hg, Option.bind_some, if_pos rfl, hj1, Option.bind_some]; rfl
      · rw [eat_no hl hz (by rw [hg]; decide), Option.bind_some, if_neg (by simp), eat_no hl hz (by rw [hg]; decide), Option.bind_some, if_neg (by simp), eat_yes hl hz (c := 63) hg, Option.bind_some, if_pos rfl, hj1, Option.bind_some]; rfl
    have pc := pc_of hl hz hs pr
    exact ⟨pa_of hl hz hs pc, fun _ => pc, fun _ _ => pr⟩
  | cat a b iha ihb =>
    intro hr hs
    have hlen : (ser (Rx.cat a b)).length = (ser a).length + (ser b).length + 1 := by simp [ser]; omega
    have ha := iha hr.1 (by omega)
    have hb := ihb hr.2 (by omega)
    have pc : ∀ (n : Nat) (d : Int) (r : List Int) (j : Nat), 0 ≤ d → d + ((ser (Rx.cat a b)).length : Int) ≤ 99 → l.drop n = tx (Rx.cat a b) ++ r → hout r [42, 43, 63] → 4 * (ser (Rx.cat a b)).length + 1 ≤ j →
      ∃ f, KK ≤ f + (ser (Rx.cat a b)).length ∧ rex_reader_cat_r KK (j + 1) (st l n d) = rex_reader_cat_l1 KK (rex_reader_repeat_r KK j) f (B l) ((n + (tx (Rx.cat a b)).length : Nat) : Int) d (ser (Rx.cat a b)) true := by
      intro n d r j h0 h1 e hr' hj
      have e' : l.drop n = wr (w3 a) (tx a) ++ (wr (w23 b) (tx b) ++ r) := by rw [e, tx]; simp
      obtain ⟨y, Y, ey, hy⟩ := wr_head (c := w23 b) (tx_head b hr.2)
      have hy' : y ≠ 124 ∧ y ≠ 41 ∧ y ≠ 42 ∧ y ≠ 43 ∧ y ≠ 63 ∧ y ≠ 93 ∧ y ≠ 47 ∧ y ≠ 34 := by simpa [SPC] using hy
      have ho : hout (wr (w23 b) (tx b) ++ r) [42, 43, 63] := by rw [ey]; exact hout_cons (by simp [hy'.2.2.1, hy'.2.2.2.1, hy'.2.2.2.2.1])
      obtain ⟨f, a2, a3⟩ := wcat hl hz (by omega) ha h0 (by omega) e' ho (j := j) (by omega)
      have hf : 200000 ≤ f + (ser a).length := a2
      obtain ⟨g, rfl⟩ : ∃ g, f = g + 1 := ⟨f - 1, by omega⟩
      have e2 := drop_add e'
      obtain ⟨j, rfl⟩ : ∃ i, j = i + 1 := ⟨j - 1, by omega⟩
      have hb' := wrep_full hl hz (by omega) hb h0 (by omega) e2 hr' (j := j) (by omega)
      have hg : l[n + (wr (w3 a) (tx a)).length]? = some y := drop_get (r := Y ++ r) (by rw [e2, ey]; rfl)
      refine ⟨g, by omega, ?_⟩
      rw [a3, rex_reader_cat_l1.eq_2, if_pos rfl, show S49.mk (B l) ((n + (wr (w3 a) (tx a)).length : Nat) : Int) d = st l (n + (wr (w3 a) (tx a)).length) d from rfl, end_some hl hg _ (by decide), i5, decide_eq_false (by simp [hy'.1, hy'.2.1]), Option.bind_some, Option.bind_some, if_pos (by rfl), hb', Option.bind_some, join2 2 (.inl rfl) (ser a) (ser b) (by omega), Option.bind_some]
      have en : n + (tx (Rx.cat a b)).length = n + (wr (w3 a) (tx a)).length + (wr (w23 b) (tx b)).length := by simp [tx]; omega
      rw [en]; rfl
    exact ⟨pa_of hl hz hs pc, fun _ => pc, fun _ k => absurd rfl k⟩
  | alt a b iha ihb =>
    intro hr hs
    have hlen : (ser (Rx.alt a b)).length = (ser a).length + (ser b).length + 1 := by simp [ser]; omega
    have ha := iha hr.1 (by omega)
    have hb := ihb hr.2 (by omega)
    refine ⟨?_, fun k => absurd rfl k, fun k => absurd rfl k⟩
    intro n d r j h0 h1 e hr' hj
    have e' : l.drop n = tx a ++ (124 :: (wr (w3 b) (tx b) ++ r)) := by rw [e, tx]; simp
    obtain ⟨f, a2, a3⟩ := ha.pa n d _ j h0 (by omega) e' (hin_cons (by decide)) (by omega)
    have hf : 200000 ≤ f + (ser a).length := a2
    obtain ⟨g, rfl⟩ : ∃ g, f = g + 1 := ⟨f - 1, by omega⟩
    have e2 := drop_add e'
    have hg : l[n + (tx a).length]? = some 124 := drop_get e2
    have e3 : l.drop (n + (tx a).length + 1) = wr (w3 b) (tx b) ++ r := drop_add (X := [124]) e2
    obtain ⟨j, rfl⟩ : ∃ i, j = i + 1 := ⟨j - 1, by omega⟩
    have hb' := wcat_full hl hz (by omega) hb h0 (by omega) e3 hr' (j := j) (by omega)
    refine ⟨g, by omega, ?_⟩
    rw [a3, rex_reader_alt_l1.eq_2, if_pos rfl, show S49.mk (B l) ((n + (tx a).length : Nat) : Int) d = st l (n + (tx a).length) d from rfl, eat_yes hl hz hg, Option.bind_some, Option.bind_some]
    dsimp only [st]
    rw [if_pos rfl, show S49.mk (B l) ((n + (tx a).length + 1 : Nat) : Int) d = st l (n + (tx a).length + 1) d from rfl, hb', Option.bind_some, join2 3 (.inr rfl) (ser a) (ser b) (by omega), Option.bind_some]
    have en : n + (tx (Rx.alt a b)).length = n + (tx a).length + 1 + (wr (w3 b) (tx b)).length := by simp [tx]; omega
    rw [en]; rfl
end Go.Avl.TE
/- RexShows: the plain law. -/
namespace Go.Avl.TE
open Go Go.RowKit Go.Proofs Go.Avl
set_option linter.all false
set_option maxRecDepth 10000

theorem awake04s : bosketlaw04_awake KK = some true := by decide +kernel
theorem parse_back {t : Rx} (hr : ROK t) (hs : (ser t).length ≤ 60) (hz : (tx t).length ≤ 1600) : rex_Parse KK (B (tx t)) = some (ser t, 0) := by
  have hl := tx_by t hr
  have h := rd_all hl (by omega) t hr (by omega)
  obtain ⟨f, a2, a3⟩ := h.pa 0 0 [] 199999 (by omega) (by omega) (by simp) (hin_nil _) (by omega)
  have hf : 200000 ≤ f + (ser t).length := a2
  rw [alt_done hl (by omega) _ (r := []) (by simp) (fun y r' e => by cases e) 0 (ser t) (by omega)] at a3
  have a3' : rex_reader_alt KK (S49.mk (B (tx t)) 0 0) = some (ser t, true, st (tx t) (0 + (tx t).length) 0) := a3
  unfold rex_Parse
  rw [B_size, if_neg (by omega), a3', Option.bind_some, if_neg (by simp), Option.bind_some, decide_eq_false (show ¬ ((ser t, true, st (tx t) (0 + (tx t).length) 0).2.2.f1 < ((tx t).length : Int)) from by show ¬ (((0 + (tx t).length : Nat) : Int) < ((tx t).length : Int)); omega), if_neg (by decide), if_neg (by show ¬ (400 : Int) < ((ser t).length : Int); omega)]
theorem bosketlaw04_RexShows_true (a0 : (List S40)) (h0 : wf23 a0) : ∃ k, bosketlaw04_RexShows k a0 = some true := by
  refine ⟨KK, ?_⟩
  unfold bosketlaw04_RexShows
  rw [awake04s, Option.bind_some, if_neg (by decide)]
  by_cases a60 : (60 : Int) < (a0.length : Int)
  · rw [if_pos a60]; rfl
  obtain ⟨c, c1, c2, c3⟩ := check_eq a0 (by omega) (fun x hx => U_of (h0.2 x hx).2)
  rw [if_neg a60, c2, Option.bind_some, Option.bind_some]
  by_cases hc : c = 0
  · obtain ⟨t, ht, rfl⟩ := c3 hc
    subst hc
    have hz : (ser t).length ≤ 60 := by omega
    have e1 : rex_Show KK (ser t) = some (B (tx t)) := by
      unfold rex_Show rex_show
      rw [c1, Option.bind_some, if_neg (by simp), show_eq t ht (by omega) KK (by show _ ≤ 200000; omega)]; rfl
    have e2 : bosketref04_Show KK (ser t) = some (B (tx t)) := rshow_eq t ht (by omega) KK (by show _ ≤ 200000; omega)
    rw [if_neg (by simp), e1, Option.bind_some, e2]
    by_cases big : 1600 < (tx t).length
    · have e3 : rex_Parse KK (B (tx t)) = some ([], 6) := by
        unfold rex_Parse
        rw [B_size, if_pos (by omega)]
      rw [e3, Option.bind_some, Option.bind_some, if_neg (by simp), B_size, if_pos (by omega)]
      rfl
    · rw [parse_back ht hz (by omega), Option.bind_some, Option.bind_some, if_neg (by simp), B_size, if_neg (by omega), if_pos rfl, bsame_self (ser t) (by omega), Option.bind_some, if_pos rfl, rsame_self (ser t) (by omega)]
      rfl
  · rw [if_pos (by simpa using hc)]
end Go.Avl.TE
