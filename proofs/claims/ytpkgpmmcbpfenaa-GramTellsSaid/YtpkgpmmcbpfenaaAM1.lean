/- Parts: T7W, T7G0, T7A0, T7G1, T7G2, T7G3, T7PureGramTells. -/
import Derived.Test.YtpkgpmmcbpfenaaAF1
import Derived.Test.YtpkgpmmcbpfenaaAv3
import Derived.Test.YtpkgpmmcbpfenaaAF8
import Derived.Test.YtpkgpmmcbpfenaaAF9
import Derived.Test.YtpkgpmmcbpfenaaAF7
/- Opening of the arguments; printed by avlaw.py. -/
namespace Go.Avl.T7
open Go Go.RowKit Go.Proofs Go.Avl
set_option linter.unusedVariables false
set_option maxRecDepth 100000
abbrev e22 (l : List S82) : AV := .fz 3 (l.map e82)
abbrev e23 (l : List ByteArray) : AV := .fz 1 (l.map eStr)
abbrev e34 (l : List S41) : AV := .fz 2 (l.map e41)
abbrev e24 (l : List S37) : AV := .fz 6 (l.map e37)
abbrev e25 (l : List S86) : AV := .fz 2 (l.map e86)
abbrev wf9 : ByteArray → Prop := (fun s : ByteArray => s.size ≤ 9223372036854775807)
theorem op9 : Opens Try.prog 9 eStr wf9 := opens_string Try.underlying9
abbrev wf3 : Int → Prop := (fun n : Int => (Lit.int .i64 n).wf = true)
theorem op3 : Opens Try.prog 3 eI64 wf3 := opens_int Try.underlying3
abbrev wf82 : S82 → Prop := (fun x : S82 => wf9 x.f0 ∧ wf3 x.f1 ∧ wf9 x.f2)
theorem op82 : Opens Try.prog 82 e82 wf82 := (opens_struct Try.underlying82 sz82 (opensF_cons rfl sz9 (by decide) op9 (opensF_cons rfl sz3 (by decide) op3 (opensF_cons rfl sz9 (by decide) op9 (opensF_nil _))))).map (fun p => S82.mk p.1 p.2.1 p.2.2.1) (fun _ => rfl) (fun _ h => ⟨h.1, h.2.1, h.2.2.1⟩)
abbrev wf22 : (List S82) → Prop := (fun l : List S82 => l.length ≤ 9223372036854775807 ∧ ∀ a ∈ l, wf82 a)
theorem op22 : Opens Try.prog 22 e22 wf22 := opens_slice Try.underlying22 sz82 op82
abbrev wf23 : (List ByteArray) → Prop := (fun l : List ByteArray => l.length ≤ 9223372036854775807 ∧ ∀ a ∈ l, wf9 a)
theorem op23 : Opens Try.prog 23 e23 wf23 := opens_slice Try.underlying23 sz9 op9
abbrev wf4 : Bool → Prop := (fun _ : Bool => True)
theorem op4 : Opens Try.prog 4 eBool wf4 := opens_bool Try.underlying4
abbrev wf41 : S41 → Prop := (fun x : S41 => wf4 x.f0 ∧ wf3 x.f1)
theorem op41 : Opens Try.prog 41 e41 wf41 := (opens_struct Try.underlying41 sz41 (opensF_cons rfl sz4 (by decide) op4 (opensF_cons rfl sz3 (by decide) op3 (opensF_nil _)))).map (fun p => S41.mk p.1 p.2.1) (fun _ => rfl) (fun _ h => ⟨h.1, h.2.1⟩)
abbrev wf34 : (List S41) → Prop := (fun l : List S41 => l.length ≤ 9223372036854775807 ∧ ∀ a ∈ l, wf41 a)
theorem op34 : Opens Try.prog 34 e34 wf34 := opens_slice Try.underlying34 sz41 op41
abbrev wf35 : (List Int) → Prop := (fun l : List Int => l.length ≤ 9223372036854775807 ∧ ∀ a ∈ l, wf3 a)
theorem op35 : Opens Try.prog 35 e35 wf35 := opens_slice Try.underlying35 sz3 op3
abbrev wf37 : S37 → Prop := (fun x : S37 => wf3 x.f0 ∧ wf9 x.f1 ∧ wf34 x.f2 ∧ wf4 x.f3 ∧ wf3 x.f4 ∧ wf35 x.f5)
theorem op37 : Opens Try.prog 37 e37 wf37 := (opens_struct Try.underlying37 sz37 (opensF_cons rfl sz3 (by decide) op3 (opensF_cons rfl sz9 (by decide) op9 (opensF_cons rfl sz34 (by decide) op34 (opensF_cons rfl sz4 (by decide) op4 (opensF_cons rfl sz3 (by decide) op3 (opensF_cons rfl sz35 (by decide) op35 (opensF_nil _)))))))).map (fun p => S37.mk p.1 p.2.1 p.2.2.1 p.2.2.2.1 p.2.2.2.2.1 p.2.2.2.2.2.1) (fun _ => rfl) (fun _ h => ⟨h.1, h.2.1, h.2.2.1, h.2.2.2.1, h.2.2.2.2.1, h.2.2.2.2.2.1⟩)
abbrev wf24 : (List S37) → Prop := (fun l : List S37 => l.length ≤ 9223372036854775807 ∧ ∀ a ∈ l, wf37 a)
theorem op24 : Opens Try.prog 24 e24 wf24 := opens_slice Try.underlying24 sz37 op37
abbrev wf86 : S86 → Prop := (fun x : S86 => wf3 x.f0 ∧ wf35 x.f1)
theorem op86 : Opens Try.prog 86 e86 wf86 := (opens_struct Try.underlying86 sz86 (opensF_cons rfl sz3 (by decide) op3 (opensF_cons rfl sz35 (by decide) op35 (opensF_nil _)))).map (fun p => S86.mk p.1 p.2.1) (fun _ => rfl) (fun _ h => ⟨h.1, h.2.1⟩)
abbrev wf25 : (List S86) → Prop := (fun l : List S86 => l.length ≤ 9223372036854775807 ∧ ∀ a ∈ l, wf86 a)
theorem op25 : Opens Try.prog 25 e25 wf25 := opens_slice Try.underlying25 sz86 op86
abbrev wf27 : S27 → Prop := (fun x : S27 => wf22 x.f0 ∧ wf23 x.f1 ∧ wf24 x.f2 ∧ wf25 x.f3 ∧ wf3 x.f4)
theorem op27 : Opens Try.prog 27 e27 wf27 := (opens_struct Try.underlying27 sz27 (opensF_cons rfl sz22 (by decide) op22 (opensF_cons rfl sz23 (by decide) op23 (opensF_cons rfl sz24 (by decide) op24 (opensF_cons rfl sz25 (by decide) op25 (opensF_cons rfl sz3 (by decide) op3 (opensF_nil _))))))).map (fun p => S27.mk p.1 p.2.1 p.2.2.1 p.2.2.2.1 p.2.2.2.2.1) (fun _ => rfl) (fun _ h => ⟨h.1, h.2.1, h.2.2.1, h.2.2.2.1, h.2.2.2.2.1⟩)
end Go.Avl.T7
/- The examples of the pages. -/
namespace Go.Avl.T7
open Go Go.RowKit Go.Proofs Go.Avl
set_option linter.all false
set_option maxRecDepth 10000
theorem awake17 : bosketlaw17_awake 5000 = some true := by decide +kernel
end Go.Avl.T7
/- The element of a row. -/
namespace Go.Avl.T7
open Go Go.RowKit Go.Proofs Go.Avl
theorem lget_lt {α : Type} [Inhabited α] (l : List α) (i : Nat) (h : i < l.length) : lget l (i : Int) = l[i] := by simp [lget, List.getD, List.getElem?_eq_getElem h]
end Go.Avl.T7
/- Rows compared, element by element. -/
namespace Go.Avl.T7
open Go Go.RowKit Go.Proofs Go.Avl
set_option linter.all false
set_option maxRecDepth 10000

theorem w64n {n : Nat} (h : n ≤ 100000) : w64 ((n : Int) + 1) = ((n + 1 : Nat) : Int) := by rw [w64_id (by omega) (by omega)]; rfl
/-- A loop that goes on as long as something holds. -/
theorem loopAll {f : Nat → Int → Option Bool} {n : Nat} {P : Nat → Prop} {c d : Option Bool} (hs : ∀ j (i : Nat), i < n → (P i → f (j + 1) (i : Int) = f j ((i + 1 : Nat) : Int)) ∧ (¬ P i → f (j + 1) (i : Int) = d)) (he : ∀ j, f (j + 1) (n : Int) = c) :
    ∀ (m i fuel : Nat), i + m = n → m < fuel → ((∀ q, i ≤ q → q < n → P q) → f fuel (i : Int) = c) ∧ ((¬ ∀ q, i ≤ q → q < n → P q) → f fuel (i : Int) = d)
  | 0, i, fu + 1, hi, _ => by
    obtain rfl : i = n := by omega
    exact ⟨fun _ => he fu, fun h => absurd (fun q h1 h2 => by omega) h⟩
  | m + 1, i, fu + 1, hi, hf => by
    obtain ⟨ih1, ih2⟩ := loopAll hs he m (i + 1) fu (by omega) (by omega)
    obtain ⟨s1, s2⟩ := hs fu i (by omega)
    refine ⟨fun h => ?_, fun h => ?_⟩
    · rw [s1 (h i (Nat.le_refl _) (by omega))]
      exact ih1 fun q h1 h2 => h q (by omega) h2
    · by_cases p : P i
      · rw [s1 p]
        refine ih2 fun k => h fun q h1 h2 => ?_
        by_cases e : q = i
        · rw [e]; exact p
        · exact k q (by omega) h2
      · exact s2 p
theorem mem_get {α : Type} [Inhabited α] (l : List α) {i : Nat} (h : i < l.length) : lget l (i : Int) ∈ l := by rw [lget_lt l i h]; exact List.getElem_mem h
def P37 (p : S37) : Prop := p.f2.length ≤ 1000 ∧ p.f5.length ≤ 1000
/-- A grammar whose rows are not too long. -/
structure Sm (g : S27) : Prop where
  r : g.f0.length ≤ 1000
  s : g.f1.length ≤ 1000
  p : g.f2.length ≤ 1000
  l : g.f3.length ≤ 1000
  ps : ∀ x ∈ g.f2, P37 x
  ls : ∀ x ∈ g.f3, x.f1.length ≤ 1000
end Go.Avl.T7
/- Which grammars are tried; the document's Same. -/
namespace Go.Avl.T7
open Go Go.RowKit Go.Proofs Go.Avl
set_option linter.all false
set_option maxRecDepth 10000

def RuleFew (r : S82) : Prop := r.f2.size ≤ 40 ∧ r.f0.size ≤ 100
theorem rfew_is (l : List S82) : ∃ b, bosketlaw11_Few 5000 l = some b ∧ (b = true → l.length ≤ 20 ∧ ∀ r ∈ l, RuleFew r) := by
  by_cases hl : (20 : Int) < (l.length : Int)
  · exact ⟨false, by unfold bosketlaw11_Few; rw [if_pos hl], fun h => by cases h⟩
  · have e : bosketlaw11_Few 5000 l = bosketlaw11_Few_l1 5000 l 5000 ((0 : Nat) : Int) := by unfold bosketlaw11_Few; rw [if_neg hl]; rfl
    obtain ⟨h1, h2⟩ := loopAll (f := bosketlaw11_Few_l1 5000 l) (n := l.length) (P := fun q => RuleFew (lget l (q : Int))) (c := some true) (d := some false)
      (fun j i hi => by
        have g : 0 ≤ (i : Int) ∧ (i : Int) < (l.length : Int) := ⟨by omega, by omega⟩
        rw [bosketlaw11_Few_l1.eq_2, if_pos g.2, if_pos g, w64n (by omega)]
        unfold RuleFew
        by_cases c : (40 : Int) < (((lget l (i : Int)).f2).size : Int)
        · rw [if_pos c]
          exact ⟨fun p => by omega, fun _ => rfl⟩
        · rw [if_neg c, if_pos g]
          by_cases c2 : (100 : Int) < (((lget l (i : Int)).f0).size : Int)
          · rw [decide_eq_true c2]
            exact ⟨fun p => by omega, fun _ => rfl⟩
          · rw [decide_eq_false c2]
            exact ⟨fun _ => rfl, fun p => absurd ⟨by omega, by omega⟩ p⟩)
      (fun j => by rw [bosketlaw11_Few_l1.eq_2, if_neg (by omega)]; rfl) l.length 0 5000 (by omega) (by omega)
    rw [e]
    by_cases q : ∀ q : Nat, 0 ≤ q → q < l.length → RuleFew (lget l (q : Int))
    · refine ⟨true, h1 q, fun _ => ⟨by omega, fun r hr => ?_⟩⟩
      obtain ⟨i, hi, rfl⟩ := List.getElem_of_mem hr
      have := q i (by omega) hi
      rwa [lget_lt l i hi] at this
    · exact ⟨false, h2 q, fun h => by cases h⟩
structure Fw (g : S27) : Prop where
  r : g.f0.length ≤ 20
  rs : ∀ r ∈ g.f0, RuleFew r
  s : g.f1.length ≤ 20
  ss : ∀ x ∈ g.f1, x.size ≤ 100
  p : g.f2.length ≤ 40
  ps : ∀ x ∈ g.f2, x.f2.length ≤ 20 ∧ x.f5.length ≤ 20 ∧ x.f1.size ≤ 100
  l : g.f3.length ≤ 20
  ls : ∀ x ∈ g.f3, x.f1.length ≤ 20
theorem Fw.sm {g : S27} (h : Fw g) : Sm g :=
  ⟨by have := h.r; omega, by have := h.s; omega, by have := h.p; omega, by have := h.l; omega, fun x hx => by
    have := h.ps x hx
    exact ⟨by omega, by omega⟩, fun x hx => by have := h.ls x hx; omega⟩
theorem all_mem {α : Type} [Inhabited α] {l : List α} {P : α → Prop} (h : ∀ q : Nat, 0 ≤ q → q < l.length → P (lget l (q : Int))) : ∀ x ∈ l, P x := fun r hr => by
  obtain ⟨i, hi, rfl⟩ := List.getElem_of_mem hr
  have := h i (by omega) hi
  rwa [lget_lt l i hi] at this
theorem few_is (g : S27) : ∃ b, bosketlaw17_Few 5000 g = some b ∧ (b = true → Fw g) := by
  obtain ⟨t, t1, t2⟩ := rfew_is g.f0
  unfold bosketlaw17_Few
  rw [t1, Option.bind_some]
  by_cases ct : t = true
  · rw [ct, if_neg (by decide)]
    by_cases c1 : (20 : Int) < (g.f1.length : Int)
    · rw [if_pos c1]; exact ⟨false, rfl, fun h => by cases h⟩
    · rw [if_neg c1]
      by_cases c2 : (40 : Int) < (g.f2.length : Int)
      · rw [if_pos c2]; exact ⟨false, rfl, fun h => by cases h⟩
      · rw [if_neg c2, Option.bind_some]
        by_cases c3 : (20 : Int) < (g.f3.length : Int)
        · rw [decide_eq_true c3, if_pos rfl]; exact ⟨false, rfl, fun h => by cases h⟩
        · rw [decide_eq_false c3, if_neg (by decide)]
          obtain ⟨a1, a2⟩ := loopAll (f := bosketlaw17_Few_l1 5000 g) (n := g.f3.length) (P := fun q => (lget g.f3 (q : Int)).f1.length ≤ 20) (c := some true) (d := some false)
            (fun j i hi => by
              have g0 : 0 ≤ (i : Int) ∧ (i : Int) < (g.f3.length : Int) := ⟨by omega, by omega⟩
              rw [bosketlaw17_Few_l1.eq_2, if_pos g0.2, if_pos g0, w64n (by omega)]
              exact ⟨fun p => by rw [if_neg (by omega)], fun p => by rw [if_pos (by omega)]⟩)
            (fun j => by rw [bosketlaw17_Few_l1.eq_2, if_neg (by omega)]; rfl) g.f3.length 0 5000 (by omega) (by omega)
          obtain ⟨b1, b2⟩ := loopAll (f := bosketlaw17_Few_l3 5000 g) (n := g.f2.length) (P := fun q => (lget g.f2 (q : Int)).f2.length ≤ 20 ∧ (lget g.f2 (q : Int)).f5.length ≤ 20 ∧ (lget g.f2 (q : Int)).f1.size ≤ 100) (c := bosketlaw17_Few_c2 5000 g) (d := some false)
            (fun j i hi => by
              have g0 : 0 ≤ (i : Int) ∧ (i : Int) < (g.f2.length : Int) := ⟨by omega, by omega⟩
              rw [bosketlaw17_Few_l3.eq_2, if_pos g0.2, if_pos g0, w64n (by omega)]
              by_cases d1 : (20 : Int) < (((lget g.f2 (i : Int)).f2).length : Int)
              · rw [if_pos d1]; exact ⟨fun p => by omega, fun _ => rfl⟩
              · rw [if_neg d1, if_pos g0]
                by_cases d2 : (20 : Int) < (((lget g.f2 (i : Int)).f5).length : Int)
                · rw [if_pos d2]; exact ⟨fun p => by omega, fun _ => rfl⟩
                · rw [if_neg d2, if_pos g0]
                  by_cases d3 : (100 : Int) < (((lget g.f2 (i : Int)).f1).size : Int)
                  · rw [decide_eq_true d3]; exact ⟨fun p => by omega, fun _ => rfl⟩
                  · rw [decide_eq_false d3]; exact ⟨fun _ => rfl, fun p => absurd ⟨by omega, by omega, by omega⟩ p⟩)
            (fun j => by rw [bosketlaw17_Few_l3.eq_2, if_neg (by omega)]) g.f2.length 0 5000 (by omega) (by omega)
          obtain ⟨e1, e2⟩ := loopAll (f := bosketlaw17_Few_l5 5000 g) (n := g.f1.length) (P := fun q => (lget g.f1 (q : Int)).size ≤ 100) (c := bosketlaw17_Few_c4 5000 g) (d := some false)
            (fun j i hi => by
              have g0 : 0 ≤ (i : Int) ∧ (i : Int) < (g.f1.length : Int) := ⟨by omega, by omega⟩
              rw [bosketlaw17_Few_l5.eq_2, if_pos g0.2, if_pos g0, w64n (by omega)]
              exact ⟨fun p => by rw [if_neg (by omega)], fun p => by rw [if_pos (by omega)]⟩)
            (fun j => by rw [bosketlaw17_Few_l5.eq_2, if_neg (by omega)]) g.f1.length 0 5000 (by omega) (by omega)
          by_cases q1 : ∀ q : Nat, 0 ≤ q → q < g.f1.length → (lget g.f1 (q : Int)).size ≤ 100
          · by_cases q2 : ∀ q : Nat, 0 ≤ q → q < g.f2.length → (lget g.f2 (q : Int)).f2.length ≤ 20 ∧ (lget g.f2 (q : Int)).f5.length ≤ 20 ∧ (lget g.f2 (q : Int)).f1.size ≤ 100
            · by_cases q3 : ∀ q : Nat, 0 ≤ q → q < g.f3.length → (lget g.f3 (q : Int)).f1.length ≤ 20
              · refine ⟨true, (e1 q1).trans ((b1 q2).trans (a1 q3)), fun _ => ?_⟩
                have := t2 ct
                exact ⟨this.1, this.2, by omega, all_mem q1, by omega, all_mem q2, by omega, all_mem q3⟩
              · exact ⟨false, (e1 q1).trans ((b1 q2).trans (a2 q3)), fun h => by cases h⟩
            · exact ⟨false, (e1 q1).trans (b2 q2), fun h => by cases h⟩
          · exact ⟨false, e2 q1, fun h => by cases h⟩
  · rw [Bool.eq_false_iff.2 ct]; exact ⟨false, rfl, fun h => by cases h⟩
end Go.Avl.T7
/- Names, productions and their lines. -/
namespace Go.Avl.T7
open Go Go.RowKit Go.Proofs Go.Avl
set_option linter.all false
set_option maxRecDepth 10000

/-- The numbers below one. -/
def idx (n : Nat) : List Int := (List.range n).map Int.ofNat
theorem idx_len (n : Nat) : (idx n).length = n := by simp [idx]
theorem idx_get {n i : Nat} (h : i < (idx n).length) : (idx n)[i] = (i : Int) := by simp [idx]
theorem idx_succ (n : Nat) : idx (n + 1) = idx n ++ [(n : Int)] := by simp [idx, List.range_succ]
theorem idx_mem {n : Nat} {x : Int} (h : x ∈ idx n) : 0 ≤ x ∧ x < (n : Int) := by
  obtain ⟨i, hi, rfl⟩ := List.mem_map.1 h
  have := List.mem_range.1 hi
  exact ⟨by show (0 : Int) ≤ (i : Int); omega, by show (i : Int) < _; omega⟩
def fstI (p : Int → Bool) (L : List Int) : Int := (L.find? p).getD (-1)
theorem fstI_mem {p : Int → Bool} {L : List Int} (h : ∀ x ∈ L, 0 ≤ x) : (fstI p L < 0 ∧ L.find? p = none ∧ fstI p L = -1) ∨ (0 ≤ fstI p L ∧ L.find? p = some (fstI p L) ∧ fstI p L ∈ L ∧ p (fstI p L) = true) := by
  unfold fstI
  cases e : L.find? p with
  | none => left; simp
  | some x =>
    right
    have hm := List.mem_of_find?_eq_some e
    have hp := List.find?_some e
    exact ⟨by simpa using h x hm, by simp, by simpa using hm, by simpa using hp⟩
theorem fstI_snoc {p : Int → Bool} {L : List Int} (h : ∀ x ∈ L, 0 ≤ x) (i : Int) : fstI p (L ++ [i]) = if fstI p L < 0 then (if p i = true then i else -1) else fstI p L := by
  have e : fstI p (L ++ [i]) = ((L.find? p).or (([i] : List Int).find? p)).getD (-1) := by unfold fstI; rw [List.find?_append]
  rw [e]
  rcases fstI_mem (p := p) h with ⟨a, b, c⟩ | ⟨a, b, c, d⟩
  · rw [if_pos a, b]
    cases hp : p i <;> simp [List.find?, hp]
  · rw [if_neg (by omega), b]; simp
/-- A loop that looks for the first. -/
theorem loopFindL {β : Type} {L : List Int} {p : Int → Bool} {f : Nat → Int → Option β} {r : Int → Option β} {c : Option β}
    (hs : ∀ j (i : Nat) (h : i < L.length), f (j + 1) (i : Int) = if p L[i] = true then r L[i] else f j ((i + 1 : Nat) : Int)) (he : ∀ j, f (j + 1) (L.length : Int) = c) :
    ∀ (m i fuel : Nat), i + m = L.length → m < fuel → f fuel (i : Int) = match (L.drop i).find? p with | some x => r x | none => c
  | 0, i, fu + 1, hi, _ => by
    obtain rfl : i = L.length := by omega
    rw [he fu, List.drop_of_length_le (Nat.le_refl _)]; rfl
  | m + 1, i, fu + 1, hi, hf => by
    have hi' : i < L.length := by omega
    rw [hs fu i hi', List.drop_eq_getElem_cons hi', List.find?]
    by_cases q : p L[i] = true
    · rw [if_pos q, q]
    · rw [if_neg q, Bool.eq_false_iff.2 q]
      exact loopFindL hs he m (i + 1) fu (by omega) (by omega)
theorem loopFst {L : List Int} {p : Int → Bool} {f : Nat → Int → Option Int} (hL : ∀ x ∈ L, 0 ≤ x) (hz : L.length ≤ 4000)
    (hs : ∀ j (i : Nat) (h : i < L.length), f (j + 1) (i : Int) = if p L[i] = true then some L[i] else f j ((i + 1 : Nat) : Int)) (he : ∀ j, f (j + 1) (L.length : Int) = some (-1)) : f 5000 (0 : Int) = some (fstI p L) := by
  have := loopFindL hs he L.length 0 5000 (by omega) (by omega)
  rw [List.drop_zero] at this
  have e : f 5000 (0 : Int) = _ := this
  rw [e]
  rcases fstI_mem (p := p) hL with ⟨a, b, c⟩ | ⟨a, b, c, d⟩
  · rw [b, c]
  · rw [b]
theorem idx_nn {n : Nat} : ∀ x ∈ idx n, 0 ≤ x := fun x h => (idx_mem h).1
/-! Names. -/
def rfd (l : List S82) (s : ByteArray) : Int := fstI (fun x => decide ((lget l x).f0 = s)) (idx l.length)
def sfd (l : List ByteArray) (s : ByteArray) : Int := fstI (fun x => decide (lget l x = s)) (idx l.length)
theorem rfind_eq (l : List S82) (s : ByteArray) (hz : l.length ≤ 1000) : rules_Find 5000 l s = some (rfd l s) := by
  refine loopFst (f := rules_Find_l1 5000 l s) idx_nn (by rw [idx_len]; omega) (fun j i h => ?_) (fun j => ?_)
  · rw [idx_get h]
    rw [idx_len] at h
    rw [rules_Find_l1.eq_2, if_pos (by omega), if_pos ⟨by omega, by omega⟩, w64n (by omega)]
    simp only [decide_eq_true_eq]
  · rw [idx_len, rules_Find_l1.eq_2, if_neg (by omega)]; rfl
theorem sfind_eq (l : List ByteArray) (s : ByteArray) (hz : l.length ≤ 1000) : slices_Index_string_string_ 5000 l s = some (sfd l s) := by
  refine loopFst (f := slices_Index_string_string__l1 5000 l s) idx_nn (by rw [idx_len]; omega) (fun j i h => ?_) (fun j => ?_)
  · rw [idx_get h]
    rw [idx_len] at h
    rw [slices_Index_string_string__l1.eq_2, if_pos (by omega), if_pos ⟨by omega, by omega⟩, w64n (by omega)]
    simp only [decide_eq_true_eq]
    by_cases q : s = lget l (i : Int)
    · rw [if_pos q, if_pos q.symm]
    · rw [if_neg q, if_neg fun e => q e.symm]
  · rw [idx_len, slices_Index_string_string__l1.eq_2, if_neg (by omega)]; rfl
def fnd (g : S27) (s : ByteArray) : S41 × Bool := if 0 ≤ rfd g.f0 s then (S41.mk false (rfd g.f0 s), true) else if 0 ≤ sfd g.f1 s then (S41.mk true (sfd g.f1 s), true) else (S41.mk false 0, false)
theorem find_eq (g : S27) (s : ByteArray) (h : Sm g) : gram_Find 5000 g s = some (fnd g s) := by
  unfold gram_Find fnd
  rw [rfind_eq _ _ h.r, Option.bind_some]
  split
  · rfl
  · rw [sfind_eq _ _ h.s, Option.bind_some]
    split <;> rfl
theorem rfindG_eq (g : S27) (s : ByteArray) (h : Sm g) : bosketref17_Find 5000 g s = some (fnd g s) := by
  have z1 := h.r
  have z2 := h.s
  have h1 := loopFindL (L := idx g.f0.length) (p := fun x => decide ((lget g.f0 x).f0 = s)) (f := bosketref17_Find_l3 5000 g s) (r := fun x => some (S41.mk false x, true)) (c := bosketref17_Find_c2 5000 g s) (fun j i h => by
    rw [idx_get h]
    rw [idx_len] at h
    rw [bosketref17_Find_l3.eq_2, if_pos (by omega), if_pos ⟨by omega, by omega⟩, w64n (by omega)]
    simp only [decide_eq_true_eq]) (fun j => by rw [idx_len, bosketref17_Find_l3.eq_2, if_neg (by omega)]) (idx g.f0.length).length 0 5000 (by omega) (by rw [idx_len]; omega)
  have h2 := loopFindL (L := idx g.f1.length) (p := fun x => decide (lget g.f1 x = s)) (f := bosketref17_Find_l1 5000 g s) (r := fun x => some (S41.mk true x, true)) (c := some (S41.mk false 0, false)) (fun j i h => by
    rw [idx_get h]
    rw [idx_len] at h
    rw [bosketref17_Find_l1.eq_2, if_pos (by omega), if_pos ⟨by omega, by omega⟩, w64n (by omega)]
    simp only [decide_eq_true_eq]) (fun j => by rw [idx_len, bosketref17_Find_l1.eq_2, if_neg (by omega)]; rfl) (idx g.f1.length).length 0 5000 (by omega) (by rw [idx_len]; omega)
  rw [List.drop_zero] at h1 h2
  have e1 : bosketref17_Find 5000 g s = bosketref17_Find_l3 5000 g s 5000 ((0 : Nat) : Int) := rfl
  have e2 : bosketref17_Find_c2 5000 g s = bosketref17_Find_l1 5000 g s 5000 ((0 : Nat) : Int) := rfl
  rw [e1, h1, e2, h2]
  unfold fnd rfd sfd
  rcases fstI_mem (p := fun x => decide ((lget g.f0 x).f0 = s)) (idx_nn (n := g.f0.length)) with ⟨a, b, c⟩ | ⟨a, b, c, d⟩
  · rw [b, if_neg (by omega)]
    rcases fstI_mem (p := fun x => decide (lget g.f1 x = s)) (idx_nn (n := g.f1.length)) with ⟨a, b, c⟩ | ⟨a, b, c, d⟩
    · rw [b, if_neg (by omega)]
    · rw [b, if_pos a]
  · rw [b, if_pos a]
def hasS (g : S27) (s : S41) : Bool := if s.f0 = true then decide (0 ≤ s.f1 ∧ s.f1 < (g.f1.length : Int)) else decide (0 ≤ s.f1 ∧ s.f1 < (g.f0.length : Int) ∧ (lget g.f0 s.f1).f1 = 0)
theorem has_eq (g : S27) (s : S41) (k : Nat) : gram_Has k g s = some (hasS g s) := by
  unfold gram_Has hasS
  by_cases c : s.f0 = true
  · rw [if_pos c, if_pos c]
    by_cases a : 0 ≤ s.f1
    · rw [if_pos a]; simp [a]
    · rw [if_neg a]; simp [a]
  · rw [if_neg c, if_neg c]
    by_cases a : 0 ≤ s.f1
    · rw [if_pos a]
      by_cases b : s.f1 < (g.f0.length : Int)
      · rw [if_pos b, if_pos ⟨a, b⟩]; simp [a, b]
      · rw [if_neg b]; simp [b]
    · rw [if_neg a]; simp [a]
theorem rhas_eq (g : S27) (s : S41) (k : Nat) : bosketref17_Has k g s = some (hasS g s) := has_eq g s k
def nm (g : S27) (s : S41) : ByteArray := if s.f1 < 0 then ByteArray.mk #[63] else if s.f0 = true then (if s.f1 < (g.f1.length : Int) then lget g.f1 s.f1 else ByteArray.mk #[63]) else (if s.f1 < (g.f0.length : Int) then (lget g.f0 s.f1).f0 else ByteArray.mk #[63])
theorem name_eq (g : S27) (s : S41) (k : Nat) : gram_Name k g s = some (nm g s) := by
  unfold gram_Name nm
  by_cases a : s.f1 < 0
  · rw [if_pos a]
    by_cases c : s.f0 = true
    · rw [if_pos c, if_neg (by omega), Option.bind_some, if_neg (by decide), c, if_neg (by decide)]; rfl
    · rw [if_neg c, Option.bind_some, if_neg (by decide), Bool.eq_false_iff.2 c, if_pos (by decide), if_neg (by omega)]; rfl
  · rw [if_neg a]
    by_cases c : s.f0 = true
    · rw [if_pos c, if_pos (by omega), Option.bind_some, if_pos c]
      by_cases b : s.f1 < (g.f1.length : Int)
      · rw [decide_eq_true b, if_pos rfl, if_pos ⟨by omega, b⟩, if_pos b]
      · rw [decide_eq_false b, if_neg (by decide), if_neg b, c, if_neg (by decide)]; rfl
    · rw [if_neg c, Option.bind_some, if_neg (by decide), if_neg c, Bool.eq_false_iff.2 c, if_pos (by decide), if_pos (by omega), Option.bind_some]
      by_cases b : s.f1 < (g.f0.length : Int)
      · rw [decide_eq_true b, if_pos rfl, if_pos ⟨by omega, b⟩, if_pos b]
      · rw [decide_eq_false b, if_neg (by decide), if_neg b]
theorem rname_eq (g : S27) (s : S41) (k : Nat) : bosketref17_Name k g s = some (nm g s) := by
  unfold bosketref17_Name nm
  by_cases a : s.f1 < 0
  · rw [if_pos a, if_pos a]
  · rw [if_neg a, if_neg a]
    by_cases c : s.f0 = true
    · rw [if_pos c, Option.bind_some, if_pos c]
      by_cases b : s.f1 < (g.f1.length : Int)
      · rw [decide_eq_true b, if_pos rfl, if_pos ⟨by omega, b⟩, if_pos b]
      · rw [decide_eq_false b, if_neg (by decide), if_neg b, c, if_neg (by decide)]; rfl
    · rw [if_neg c, Option.bind_some, if_neg (by decide), if_neg c, Bool.eq_false_iff.2 c, if_pos (by decide), Option.bind_some]
      by_cases b : s.f1 < (g.f0.length : Int)
      · rw [decide_eq_true b, if_pos rfl, if_pos ⟨by omega, b⟩, if_pos b]
      · rw [decide_eq_false b, if_neg (by decide), if_neg b]
theorem nm_size {g : S27} (h : Fw g) (s : S41) : (nm g s).size ≤ 100 := by
  unfold nm
  split
  · decide
  · split
    · split
      · exact h.ss _ (mem_lg (by omega) (by omega))
      · decide
    · split
      · exact (h.rs _ (mem_lg (by omega) (by omega))).2
      · decide
where
  mem_lg {α : Type} [Inhabited α] {l : List α} {i : Int} (h0 : 0 ≤ i) (h1 : i < (l.length : Int)) : lget l i ∈ l := by
    obtain ⟨j, rfl⟩ := Int.eq_ofNat_of_zero_le h0
    exact mem_get l (by omega)
/-! Lines. -/
def bdy (g : S27) : List S41 → ByteArray → ByteArray
  | [], a => a
  | s :: l, a => bdy g l (a ++ (ByteArray.mk #[32] ++ nm g s))
def lne (g : S27) (p : S37) : ByteArray := bdy g p.f2 (((nm g (S41.mk true p.f0) ++ ByteArray.mk #[46]) ++ p.f1) ++ ByteArray.mk #[32, 61])
theorem sz1 (c : UInt8) : (ByteArray.mk #[c]).size = 1 := rfl
theorem line_l {g : S27} (h : Fw g) (i : Int) (hl : (lget g.f2 i).f2.length ≤ 20) : ∀ (m q fuel : Nat) (a : ByteArray), q + m = (lget g.f2 i).f2.length → m < fuel → a.size ≤ 1000 + 101 * q →
    gram_Line_l1 5000 g i fuel a (q : Int) = some (bdy g ((lget g.f2 i).f2.drop q) a)
  | 0, q, fu + 1, a, hq, _, _ => by rw [gram_Line_l1.eq_2, if_neg (by omega), List.drop_of_length_le (by omega)]; rfl
  | m + 1, q, fu + 1, a, hq, hf, hz => by
    have hq' : q < (lget g.f2 i).f2.length := by omega
    have hn := nm_size h (lget (lget g.f2 i).f2 (q : Int))
    have e : (ByteArray.mk #[32] ++ nm g (lget (lget g.f2 i).f2 (q : Int))).size = 1 + (nm g (lget (lget g.f2 i).f2 (q : Int))).size := by rw [ByteArray.size_append, sz1]
    have ih := line_l h i hl m (q + 1) fu (a ++ (ByteArray.mk #[32] ++ nm g (lget (lget g.f2 i).f2 (q : Int)))) (by omega) (by omega) (by rw [ByteArray.size_append, e]; omega)
    rw [gram_Line_l1.eq_2, if_pos (by omega), if_pos ⟨by omega, by omega⟩, name_eq, Option.bind_some, if_pos (by rw [sz1]; omega), if_pos (by rw [e]; omega), w64n (by omega), ih, List.drop_eq_getElem_cons hq', lget_lt _ q hq']
    rfl
theorem line_eq {g : S27} (h : Fw g) {i : Nat} (hi : i < g.f2.length) : gram_Line 5000 g (i : Int) = some (lne g (lget g.f2 (i : Int))) := by
  have hp := h.ps _ (mem_get g.f2 hi)
  have hn := nm_size h (S41.mk true (lget g.f2 (i : Int)).f0)
  have := line_l h (i : Int) hp.1 (lget g.f2 (i : Int)).f2.length 0 5000 (((nm g (S41.mk true (lget g.f2 (i : Int)).f0) ++ ByteArray.mk #[46]) ++ (lget g.f2 (i : Int)).f1) ++ ByteArray.mk #[32, 61]) (by omega) (by omega) (by
    rw [ByteArray.size_append, ByteArray.size_append, ByteArray.size_append, sz1, show (ByteArray.mk #[32, 61]).size = 2 from rfl]; omega)
  rw [List.drop_zero] at this
  unfold gram_Line
  rw [if_neg (by omega), Option.bind_some, decide_eq_false (by omega), if_neg (by decide), if_pos ⟨by omega, by omega⟩, name_eq, Option.bind_some, if_pos (by rw [sz1]; omega), if_pos (by rw [ByteArray.size_append, sz1]; omega), if_pos (by rw [ByteArray.size_append, ByteArray.size_append, sz1, show (ByteArray.mk #[32, 61]).size = 2 from rfl]; omega)]
  exact this
theorem line_out (g : S27) : gram_Line 5000 g (g.f2.length : Int) = some (ByteArray.mk #[]) ∧ gram_Line 5000 g (-1) = some (ByteArray.mk #[]) := by
  constructor
  · unfold gram_Line
    rw [if_neg (by omega), Option.bind_some, decide_eq_true (by omega), if_pos rfl]
  · unfold gram_Line
    rw [if_pos (by omega), Option.bind_some, if_pos rfl]
theorem encl_eq (p : S37) : ∃ b, gram_Encloses 5000 p = some b ∧ bosketref17_Encloses 5000 p = some b := by
  unfold gram_Encloses bosketref17_Encloses
  by_cases c : (p.f2.length : Int) = 3
  · have g0 : (0 : Int) ≤ 0 ∧ (0 : Int) < (p.f2.length : Int) := ⟨by omega, by omega⟩
    have g1 : (0 : Int) ≤ 1 ∧ (1 : Int) < (p.f2.length : Int) := ⟨by omega, by omega⟩
    have g2 : (0 : Int) ≤ 2 ∧ (2 : Int) < (p.f2.length : Int) := ⟨by omega, by omega⟩
    rw [if_pos c, if_pos c, if_pos g0, if_pos g0]
    by_cases d : (!(lget p.f2 (0 : Int)).f0) = true
    · rw [if_pos d, if_pos d, if_pos g1, if_pos g1, if_pos g1, if_pos g2]
      have e : lget p.f2 (1 : Int) = S41.mk true p.f0 ↔ (lget p.f2 (1 : Int)).f0 = true ∧ (lget p.f2 (1 : Int)).f1 = p.f0 := by
        generalize lget p.f2 (1 : Int) = x
        cases x; simp
      by_cases u : (lget p.f2 (1 : Int)).f0 = true
      · rw [if_pos u]
        by_cases v : (lget p.f2 (1 : Int)).f1 = p.f0
        · rw [if_pos v, if_pos (e.2 ⟨u, v⟩)]; exact ⟨_, rfl, rfl⟩
        · rw [if_neg v, if_neg fun k => v (e.1 k).2]; exact ⟨_, rfl, rfl⟩
      · rw [if_neg u, if_neg fun k => u (e.1 k).1]; exact ⟨_, rfl, rfl⟩
    · rw [if_neg d, if_neg d]; exact ⟨_, rfl, rfl⟩
  · rw [if_neg c, if_neg c]; exact ⟨_, rfl, rfl⟩
/-! Productions of a sort. -/
def ofs (g : S27) (s : Int) (i : Nat) : List Int := (idx i).filter fun x => decide ((lget g.f2 x).f0 = s)
theorem ofs_succ (g : S27) (s : Int) (i : Nat) : ofs g s (i + 1) = if (lget g.f2 (i : Int)).f0 = s then ofs g s i ++ [(i : Int)] else ofs g s i := by
  unfold ofs
  rw [idx_succ, List.filter_append]
  by_cases c : (lget g.f2 (i : Int)).f0 = s
  · rw [if_pos c]; simp [c]
  · rw [if_neg c]; simp [c]
theorem ofs_len (g : S27) (s : Int) (i : Nat) : (ofs g s i).length ≤ i := by
  have := List.length_filter_le (fun x => decide ((lget g.f2 x).f0 = s)) (idx i)
  rw [idx_len] at this; exact this
theorem ofs_mem {g : S27} {s : Int} {i : Nat} {x : Int} (h : x ∈ ofs g s i) : 0 ≤ x ∧ x < (i : Int) := idx_mem (List.mem_filter.1 h).1
theorem of_l (g : S27) (s : Int) (hz : g.f2.length ≤ 1000) : ∀ (m i fuel : Nat), i + m = g.f2.length → m < fuel → gram_Of_l2 5000 g s fuel (ofs g s i) (i : Int) = some (ofs g s g.f2.length)
  | 0, i, fu + 1, hi, _ => by
    rw [gram_Of_l2.eq_2, if_neg (by omega), show i = g.f2.length by omega]; rfl
  | m + 1, i, fu + 1, hi, hf => by
    have ih := of_l g s hz m (i + 1) fu (by omega) (by omega)
    have hl := ofs_len g s i
    rw [ofs_succ] at ih
    rw [gram_Of_l2.eq_2, if_pos (by omega), if_pos ⟨by omega, by omega⟩]
    unfold gram_Of_c1
    rw [w64n (by omega)]
    by_cases c : (lget g.f2 (i : Int)).f0 = s
    · rw [if_pos c] at ih ⊢
      rw [if_pos (by simp; omega)]; exact ih
    · rw [if_neg c] at ih ⊢; exact ih
theorem of_eq (g : S27) (s : Int) (hz : g.f2.length ≤ 1000) : gram_Of 5000 g s = some (ofs g s g.f2.length) := of_l g s hz g.f2.length 0 5000 (by omega) (by omega)
def par (g : S27) (s : Int) (i : Nat) : Int := fstI (fun x => (lget g.f2 x).f3) (ofs g s i)
def con (g : S27) (s : ByteArray) (i : Nat) : Int := fstI (fun x => decide ((lget g.f2 x).f1 = s)) (idx i)
theorem paren_eq (g : S27) (s : Int) (hz : g.f2.length ≤ 1000) : gram_Paren 5000 g s = some (par g s g.f2.length) := by
  unfold gram_Paren
  rw [of_eq g s hz, Option.bind_some]
  have hl := ofs_len g s g.f2.length
  refine loopFst (f := gram_Paren_l1 5000 g (ofs g s g.f2.length)) (fun x hx => (ofs_mem hx).1) (by omega) (fun j i h => ?_) (fun j => ?_)
  · have hm := ofs_mem (List.getElem_mem h)
    rw [gram_Paren_l1.eq_2, if_pos (by omega), if_pos ⟨by omega, by omega⟩, lget_lt _ i h, if_pos hm, w64n (by omega)]
  · rw [gram_Paren_l1.eq_2, if_neg (by omega)]; rfl
theorem con_eq (g : S27) (s : ByteArray) (hz : g.f2.length ≤ 1000) : gram_Con 5000 g s = some (con g s g.f2.length) := by
  refine loopFst (f := gram_Con_l1 5000 g s) idx_nn (by rw [idx_len]; omega) (fun j i h => ?_) (fun j => ?_)
  · rw [idx_get h]
    rw [idx_len] at h
    rw [gram_Con_l1.eq_2, if_pos (by omega), if_pos ⟨by omega, by omega⟩, w64n (by omega)]
    simp only [decide_eq_true_eq]
  · rw [idx_len, gram_Con_l1.eq_2, if_neg (by omega)]; rfl
end Go.Avl.T7
/- GramTells: the plain law. -/
namespace Go.Avl.T7
open Go Go.RowKit Go.Proofs Go.Avl
set_option linter.all false
set_option maxRecDepth 10000

theorem tells_l4 {g : S27} (h : Fw g) (rec45 : Int → Int → Int → Int → Option Bool) (s : S41) (nme : ByteArray) (t27 : List Int) (x y z i : Int) (hl : (lget g.f2 i).f2.length ≤ 20) : ∀ (m q fuel : Nat) (a : ByteArray), q + m = (lget g.f2 i).f2.length → m < fuel → a.size ≤ 1000 + 101 * q →
    bosketlaw17_GramTells_l4 5000 rec45 g s nme t27 x y z i fuel a (q : Int) = bosketlaw17_GramTells_c3 5000 rec45 g s nme t27 x y z i (bdy g ((lget g.f2 i).f2.drop q) a)
  | 0, q, fu + 1, a, hq, _, _ => by rw [bosketlaw17_GramTells_l4.eq_2, if_neg (by omega), List.drop_of_length_le (by omega)]; rfl
  | m + 1, q, fu + 1, a, hq, hf, hz => by
    have hq' : q < (lget g.f2 i).f2.length := by omega
    have hn := nm_size h (lget (lget g.f2 i).f2 (q : Int))
    have e : (ByteArray.mk #[32] ++ nm g (lget (lget g.f2 i).f2 (q : Int))).size = 1 + (nm g (lget (lget g.f2 i).f2 (q : Int))).size := by rw [ByteArray.size_append, sz1]
    have ih := tells_l4 h rec45 s nme t27 x y z i hl m (q + 1) fu (a ++ (ByteArray.mk #[32] ++ nm g (lget (lget g.f2 i).f2 (q : Int)))) (by omega) (by omega) (by rw [ByteArray.size_append, e]; omega)
    rw [bosketlaw17_GramTells_l4.eq_2, if_pos (by omega), if_pos (by rw [sz1]; omega), if_pos ⟨by omega, by omega⟩, rname_eq, Option.bind_some, if_pos (by rw [ByteArray.size_append, sz1]; omega), w64n (by omega), ByteArray.append_assoc, ih, List.drop_eq_getElem_cons hq', lget_lt _ q hq']
    rfl
theorem tells_l5 {g : S27} (h : Fw g) (s : S41) (nme : ByteArray) : ∀ (m i fuel : Nat), i + m = g.f2.length → m < fuel →
    bosketlaw17_GramTells_l5 5000 g s nme (ofs g s.f1 g.f2.length) fuel ((ofs g s.f1 i).length : Int) (par g s.f1 i) (con g nme i) (i : Int) = some true
  | 0, i, fu + 1, hi, _ => by
    obtain rfl : i = g.f2.length := by omega
    have hp := h.p
    rw [bosketlaw17_GramTells_l5.eq_2, if_neg (by omega)]
    unfold bosketlaw17_GramTells_c0
    rw [if_pos rfl, paren_eq g s.f1 (by omega), Option.bind_some, if_pos rfl, con_eq g nme (by omega), Option.bind_some, if_pos rfl, (line_out g).1, Option.bind_some, if_pos rfl, (line_out g).2, Option.bind_some, Option.bind_some, decide_eq_true rfl]
  | m + 1, i, fu + 1, hi, hf => by
    have ih := tells_l5 h s nme m (i + 1) fu (by omega) (by omega)
    have hi' : i < g.f2.length := by omega
    have hp := h.p
    have hpi := h.ps _ (mem_get g.f2 hi')
    have hn := nm_size h (S41.mk true (lget g.f2 (i : Int)).f0)
    have l4 := tells_l4 h (bosketlaw17_GramTells_l5 5000 g s nme (ofs g s.f1 g.f2.length) fu) s nme (ofs g s.f1 g.f2.length) ((ofs g s.f1 i).length : Int) (par g s.f1 i) (con g nme i) (i : Int) hpi.1 (lget g.f2 (i : Int)).f2.length 0 5000 (((nm g (S41.mk true (lget g.f2 (i : Int)).f0) ++ ByteArray.mk #[46]) ++ (lget g.f2 (i : Int)).f1) ++ ByteArray.mk #[32, 61]) (by omega) (by omega) (by
      rw [ByteArray.size_append, ByteArray.size_append, ByteArray.size_append, sz1, show (ByteArray.mk #[32, 61]).size = 2 from rfl]; omega)
    rw [List.drop_zero] at l4
    have l4 : bosketlaw17_GramTells_l4 5000 _ g s nme _ _ _ _ _ 5000 _ (0 : Int) = _ := l4
    rw [bosketlaw17_GramTells_l5.eq_2, if_pos (by omega), if_pos ⟨by omega, by omega⟩, rname_eq, Option.bind_some, if_pos (by rw [sz1]; omega), if_pos (by rw [ByteArray.size_append, sz1]; omega), if_pos (by rw [ByteArray.size_append, ByteArray.size_append, sz1, show (ByteArray.mk #[32, 61]).size = 2 from rfl]; omega), l4]
    unfold bosketlaw17_GramTells_c3
    obtain ⟨eb, e1, e2⟩ := encl_eq (lget g.f2 (i : Int))
    have eline : bdy g (lget g.f2 (i : Int)).f2 (((nm g (S41.mk true (lget g.f2 (i : Int)).f0) ++ ByteArray.mk #[46]) ++ (lget g.f2 (i : Int)).f1) ++ ByteArray.mk #[32, 61]) = lne g (lget g.f2 (i : Int)) := rfl
    rw [line_eq h hi', eline, Option.bind_some, if_neg (by simp), e1, e2, Option.bind_some, Option.bind_some, Option.bind_some, show (eb != eb) = false by simp, if_neg (by decide)]
    -- the constructor
    have hcon : con g nme (i + 1) = if con g nme i < 0 then (if (lget g.f2 (i : Int)).f1 = nme then (i : Int) else -1) else con g nme i := by
      unfold con
      rw [idx_succ, fstI_snoc idx_nn]
      simp only [decide_eq_true_eq]
    have hcn : con g nme i < 0 → con g nme i = -1 := fun hh => by
      rcases fstI_mem (p := fun x => decide ((lget g.f2 x).f1 = nme)) (idx_nn (n := i)) with ⟨a, b, c⟩ | ⟨a, b, c, d⟩
      · exact c
      · have : 0 ≤ con g nme i := a
        omega
    have hpn : par g s.f1 i < 0 → par g s.f1 i = -1 := fun hh => by
      rcases fstI_mem (p := fun x => (lget g.f2 x).f3) (fun x hx => (ofs_mem (g := g) (s := s.f1) (i := i) hx).1) with ⟨a, b, c⟩ | ⟨a, b, c, d⟩
      · exact c
      · have : 0 ≤ par g s.f1 i := a
        omega
    have hlen := ofs_len g s.f1 i
    -- the productions of the sort
    have mid : bosketlaw17_GramTells_c2 5000 (bosketlaw17_GramTells_l5 5000 g s nme (ofs g s.f1 g.f2.length) fu) g s (ofs g s.f1 g.f2.length) ((ofs g s.f1 i).length : Int) (par g s.f1 i) (i : Int) (con g nme (i + 1)) = some true := by
      unfold bosketlaw17_GramTells_c2 bosketlaw17_GramTells_c1
      rw [w64n (by omega)]
      by_cases c : (lget g.f2 (i : Int)).f0 = s.f1
      · rw [if_neg (by simp [c])]
        have hs := ofs_succ g s.f1 i
        rw [if_pos c] at hs
        -- the i-th is the next one of all
        have hpre : ∃ r, ofs g s.f1 g.f2.length = ofs g s.f1 (i + 1) ++ r := by
          have : ∀ d, ∃ r, ofs g s.f1 (i + 1 + d) = ofs g s.f1 (i + 1) ++ r := by
            intro d
            induction d with
            | zero => exact ⟨[], by simp⟩
            | succ d ihd =>
              obtain ⟨r, hr⟩ := ihd
              rw [show i + 1 + (d + 1) = (i + 1 + d) + 1 by omega, ofs_succ]
              split
              · exact ⟨r ++ [((i + 1 + d : Nat) : Int)], by rw [hr, List.append_assoc]⟩
              · exact ⟨r, hr⟩
          have := this (g.f2.length - (i + 1))
          rwa [show i + 1 + (g.f2.length - (i + 1)) = g.f2.length by omega] at this
        obtain ⟨r, hr⟩ := hpre
        have hlt : (ofs g s.f1 i).length < (ofs g s.f1 g.f2.length).length := by rw [hr, hs]; simp
        have hget : lget (ofs g s.f1 g.f2.length) ((ofs g s.f1 i).length : Int) = (i : Int) := by
          rw [lget_lt _ _ hlt]
          simp only [hr, hs]
          rw [List.getElem_append_left (by simp), List.getElem_append_right (by omega)]
          simp
        rw [if_neg (by omega), if_pos ⟨by omega, by omega⟩, hget, Option.bind_some, decide_eq_false (by simp), if_neg (by decide)]
        have hpar : par g s.f1 (i + 1) = if par g s.f1 i < 0 then (if (lget g.f2 (i : Int)).f3 = true then (i : Int) else -1) else par g s.f1 i := by
          unfold par
          rw [hs, fstI_snoc (fun x hx => (ofs_mem hx).1)]
        rw [hs, List.length_append] at ih
        have elen : (((ofs g s.f1 i).length + ([(i : Int)] : List Int).length : Nat) : Int) = w64 (((ofs g s.f1 i).length : Int) + 1) := by rw [w64n (by omega)]; rfl
        rw [elen] at ih
        by_cases d : par g s.f1 i < 0
        · rw [if_pos d, Option.bind_some]
          rw [if_pos d] at hpar
          by_cases f3 : (lget g.f2 (i : Int)).f3 = true
          · rw [if_pos f3]
            rw [if_pos f3] at hpar
            rw [hpar] at ih; exact ih
          · rw [if_neg f3]
            rw [if_neg f3, ← hpn d] at hpar
            rw [hpar] at ih; exact ih
        · rw [if_neg d, Option.bind_some, if_neg (by decide)]
          rw [if_neg d] at hpar
          rw [hpar] at ih; exact ih
      · rw [if_pos c]
        have hs := ofs_succ g s.f1 i
        rw [if_neg c] at hs
        have hpar : par g s.f1 (i + 1) = par g s.f1 i := by unfold par; rw [hs]
        rw [hs, hpar] at ih
        exact ih
    by_cases cc : con g nme i < 0
    · rw [if_pos cc, Option.bind_some]
      rw [if_pos cc] at hcon
      by_cases f1 : (lget g.f2 (i : Int)).f1 = nme
      · rw [decide_eq_true f1, if_pos rfl]
        rw [if_pos f1] at hcon
        rw [hcon] at mid; exact mid
      · rw [decide_eq_false f1, if_neg (by decide)]
        rw [if_neg f1, ← hcn cc] at hcon
        rw [hcon] at mid; exact mid
    · rw [if_neg cc, Option.bind_some, if_neg (by decide)]
      rw [if_neg cc] at hcon
      rw [hcon] at mid; exact mid
theorem bosketlaw17_GramTells_true (a0 : S27) (a1 : S41) (a2 : ByteArray) (h0 : wf27 a0) (h1 : wf41 a1) (h2 : wf9 a2) (y2 : a2.size ≤ 140737488351232) : ∃ k, bosketlaw17_GramTells k a0 a1 a2 = some true := by
  refine ⟨5000, ?_⟩
  obtain ⟨b, b1, b2⟩ := few_is a0
  unfold bosketlaw17_GramTells
  rw [awake17, Option.bind_some, if_neg (by decide), b1, Option.bind_some]
  cases b with
  | false => rfl
  | true =>
    have h := b2 rfl
    have hp := h.p
    rw [if_neg (by decide), Option.bind_some]
    by_cases c : (100 : Int) < (a2.size : Int)
    · rw [decide_eq_true c]; rfl
    · rw [decide_eq_false c, if_neg (by decide), find_eq _ _ h.sm, rfindG_eq _ _ h.sm, Option.bind_some, Option.bind_some, has_eq, rhas_eq, Option.bind_some, Option.bind_some, show (hasS a0 a1 != hasS a0 a1) = false by simp, if_neg (by decide), name_eq, rname_eq, Option.bind_some, Option.bind_some, if_neg (by simp), if_neg (by simp), Option.bind_some, show ((fnd a0 a2).2 != (fnd a0 a2).2) = false by simp, if_neg (by decide), of_eq a0 a1.f1 (by omega), Option.bind_some]
      exact tells_l5 h a1 a2 a0.f2.length 0 5000 (by omega) (by omega)
end Go.Avl.T7
