/- Parts: T7W, T7G0, T7G1, T7G2, T7PureGramSame. -/
import Derived.Test.YtpkgpmmcbpfenaaAF1
import Derived.Test.YtpkgpmmcbpfenaaAv3
import Derived.Test.YtpkgpmmcbpfenaaAF8
import Derived.Test.YtpkgpmmcbpfenaaAF9
/- Opening of the arguments; printed by avlaw.py. -/
namespace Go.Avl.T7
open Go Go.RowKit Go.Proofs Go.Avl
set_option linter.unusedVariables false
set_option maxRecDepth 100000
abbrev e22 (l : List S82) : AV := .fz 3 (l.map e82)
abbrev e23 (l : List ByteArray) : AV := .fz 1 (l.map eStr)
abbrev e34 (l : List S41) : AV := .fz 2 (l.map e41)
abbrev e24 (l : List S37) : AV := .fz 6 (l.map e37)
abbrev e25 (l : List S86) : AV := .fz 2 (l.map e86)
abbrev wf9 : ByteArray → Prop := (fun s : ByteArray => s.size ≤ 9223372036854775807)
theorem op9 : Opens Try.prog 9 eStr wf9 := opens_string Try.underlying9
abbrev wf3 : Int → Prop := (fun n : Int => (Lit.int .i64 n).wf = true)
theorem op3 : Opens Try.prog 3 eI64 wf3 := opens_int Try.underlying3
abbrev wf82 : S82 → Prop := (fun x : S82 => wf9 x.f0 ∧ wf3 x.f1 ∧ wf9 x.f2)
theorem op82 : Opens Try.prog 82 e82 wf82 := (opens_struct Try.underlying82 sz82 (opensF_cons rfl sz9 (by decide) op9 (opensF_cons rfl sz3 (by decide) op3 (opensF_cons rfl sz9 (by decide) op9 (opensF_nil _))))).map (fun p => S82.mk p.1 p.2.1 p.2.2.1) (fun _ => rfl) (fun _ h => ⟨h.1, h.2.1, h.2.2.1⟩)
abbrev wf22 : (List S82) → Prop := (fun l : List S82 => l.length ≤ 9223372036854775807 ∧ ∀ a ∈ l, wf82 a)
theorem op22 : Opens Try.prog 22 e22 wf22 := opens_slice Try.underlying22 sz82 op82
abbrev wf23 : (List ByteArray) → Prop := (fun l : List ByteArray => l.length ≤ 9223372036854775807 ∧ ∀ a ∈ l, wf9 a)
theorem op23 : Opens Try.prog 23 e23 wf23 := opens_slice Try.underlying23 sz9 op9
abbrev wf4 : Bool → Prop := (fun _ : Bool => True)
theorem op4 : Opens Try.prog 4 eBool wf4 := opens_bool Try.underlying4
abbrev wf41 : S41 → Prop := (fun x : S41 => wf4 x.f0 ∧ wf3 x.f1)
theorem op41 : Opens Try.prog 41 e41 wf41 := (opens_struct Try.underlying41 sz41 (opensF_cons rfl sz4 (by decide) op4 (opensF_cons rfl sz3 (by decide) op3 (opensF_nil _)))).map (fun p => S41.mk p.1 p.2.1) (fun _ => rfl) (fun _ h => ⟨h.1, h.2.1⟩)
abbrev wf34 : (List S41) → Prop := (fun l : List S41 => l.length ≤ 9223372036854775807 ∧ ∀ a ∈ l, wf41 a)
theorem op34 : Opens Try.prog 34 e34 wf34 := opens_slice Try.underlying34 sz41 op41
abbrev wf35 : (List Int) → Prop := (fun l : List Int => l.length ≤ 9223372036854775807 ∧ ∀ a ∈ l, wf3 a)
theorem op35 : Opens Try.prog 35 e35 wf35 := opens_slice Try.underlying35 sz3 op3
abbrev wf37 : S37 → Prop := (fun x : S37 => wf3 x.f0 ∧ wf9 x.f1 ∧ wf34 x.f2 ∧ wf4 x.f3 ∧ wf3 x.f4 ∧ wf35 x.f5)
theorem op37 : Opens Try.prog 37 e37 wf37 := (opens_struct Try.underlying37 sz37 (opensF_cons rfl sz3 (by decide) op3 (opensF_cons rfl sz9 (by decide) op9 (opensF_cons rfl sz34 (by decide) op34 (opensF_cons rfl sz4 (by decide) op4 (opensF_cons rfl sz3 (by decide) op3 (opensF_cons rfl sz35 (by decide) op35 (opensF_nil _)))))))).map (fun p => S37.mk p.1 p.2.1 p.2.2.1 p.2.2.2.1 p.2.2.2.2.1 p.2.2.2.2.2.1) (fun _ => rfl) (fun _ h => ⟨h.1, h.2.1, h.2.2.1, h.2.2.2.1, h.2.2.2.2.1, h.2.2.2.2.2.1⟩)
abbrev wf24 : (List S37) → Prop := (fun l : List S37 => l.length ≤ 9223372036854775807 ∧ ∀ a ∈ l, wf37 a)
theorem op24 : Opens Try.prog 24 e24 wf24 := opens_slice Try.underlying24 sz37 op37
abbrev wf86 : S86 → Prop := (fun x : S86 => wf3 x.f0 ∧ wf35 x.f1)
theorem op86 : Opens Try.prog 86 e86 wf86 := (opens_struct Try.underlying86 sz86 (opensF_cons rfl sz3 (by decide) op3 (opensF_cons rfl sz35 (by decide) op35 (opensF_nil _)))).map (fun p => S86.mk p.1 p.2.1) (fun _ => rfl) (fun _ h => ⟨h.1, h.2.1⟩)
abbrev wf25 : (List S86) → Prop := (fun l : List S86 => l.length ≤ 9223372036854775807 ∧ ∀ a ∈ l, wf86 a)
theorem op25 : Opens Try.prog 25 e25 wf25 := opens_slice Try.underlying25 sz86 op86
abbrev wf27 : S27 → Prop := (fun x : S27 => wf22 x.f0 ∧ wf23 x.f1 ∧ wf24 x.f2 ∧ wf25 x.f3 ∧ wf3 x.f4)
theorem op27 : Opens Try.prog 27 e27 wf27 := (opens_struct Try.underlying27 sz27 (opensF_cons rfl sz22 (by decide) op22 (opensF_cons rfl sz23 (by decide) op23 (opensF_cons rfl sz24 (by decide) op24 (opensF_cons rfl sz25 (by decide) op25 (opensF_cons rfl sz3 (by decide) op3 (opensF_nil _))))))).map (fun p => S27.mk p.1 p.2.1 p.2.2.1 p.2.2.2.1 p.2.2.2.2.1) (fun _ => rfl) (fun _ h => ⟨h.1, h.2.1, h.2.2.1, h.2.2.2.1, h.2.2.2.2.1⟩)
end Go.Avl.T7
/- The examples of the pages. -/
namespace Go.Avl.T7
open Go Go.RowKit Go.Proofs Go.Avl
set_option linter.all false
set_option maxRecDepth 10000
theorem awake17 : bosketlaw17_awake 5000 = some true := by decide +kernel
end Go.Avl.T7
/- Rows compared, element by element. -/
namespace Go.Avl.T7
open Go Go.RowKit Go.Proofs Go.Avl
set_option linter.all false
set_option maxRecDepth 10000

theorem lget_lt {α : Type} [Inhabited α] (l : List α) (i : Nat) (h : i < l.length) : lget l (i : Int) = l[i] := by simp [lget, List.getD, List.getElem?_eq_getElem h]
def BoolIs (o : Option Bool) (p : Prop) : Prop := ∃ b, o = some b ∧ (b = true ↔ p)
theorem BoolIs.tt {o : Option Bool} {p : Prop} (h : o = some true) (k : p) : BoolIs o p := ⟨true, h, by simp [k]⟩
theorem BoolIs.ff {o : Option Bool} {p : Prop} (h : o = some false) (k : ¬ p) : BoolIs o p := ⟨false, h, by simp [k]⟩
theorem w64n {n : Nat} (h : n ≤ 100000) : w64 ((n : Int) + 1) = ((n + 1 : Nat) : Int) := by rw [w64_id (by omega) (by omega)]; rfl
/-- A loop that goes on as long as something holds. -/
theorem loopAll {f : Nat → Int → Option Bool} {n : Nat} {P : Nat → Prop} {c d : Option Bool} (hs : ∀ j (i : Nat), i < n → (P i → f (j + 1) (i : Int) = f j ((i + 1 : Nat) : Int)) ∧ (¬ P i → f (j + 1) (i : Int) = d)) (he : ∀ j, f (j + 1) (n : Int) = c) :
    ∀ (m i fuel : Nat), i + m = n → m < fuel → ((∀ q, i ≤ q → q < n → P q) → f fuel (i : Int) = c) ∧ ((¬ ∀ q, i ≤ q → q < n → P q) → f fuel (i : Int) = d)
  | 0, i, fu + 1, hi, _ => by
    obtain rfl : i = n := by omega
    exact ⟨fun _ => he fu, fun h => absurd (fun q h1 h2 => by omega) h⟩
  | m + 1, i, fu + 1, hi, hf => by
    obtain ⟨ih1, ih2⟩ := loopAll hs he m (i + 1) fu (by omega) (by omega)
    obtain ⟨s1, s2⟩ := hs fu i (by omega)
    refine ⟨fun h => ?_, fun h => ?_⟩
    · rw [s1 (h i (Nat.le_refl _) (by omega))]
      exact ih1 fun q h1 h2 => h q (by omega) h2
    · by_cases p : P i
      · rw [s1 p]
        refine ih2 fun k => h fun q h1 h2 => ?_
        by_cases e : q = i
        · rw [e]; exact p
        · exact k q (by omega) h2
      · exact s2 p
theorem lists_eq {α : Type} [Inhabited α] {a b : List α} (h : a.length = b.length) : a = b ↔ ∀ q : Nat, 0 ≤ q → q < a.length → lget a (q : Int) = lget b (q : Int) := by
  constructor
  · intro e q _ _; rw [e]
  · intro k
    refine List.ext_getElem h fun i h1 h2 => ?_
    have := k i (by omega) h1
    rwa [lget_lt a i h1, lget_lt b i h2] at this
theorem rules_is (a b : List S82) (ha : a.length ≤ 1000) : BoolIs (slices_Equal_api_Rule_api_Rule_ 5000 a b) (a = b) := by
  by_cases hl : a.length = b.length
  · have e : slices_Equal_api_Rule_api_Rule_ 5000 a b = slices_Equal_api_Rule_api_Rule__l1 5000 a b 5000 ((0 : Nat) : Int) := by unfold slices_Equal_api_Rule_api_Rule_; rw [if_neg (by omega)]; rfl
    obtain ⟨h1, h2⟩ := loopAll (f := slices_Equal_api_Rule_api_Rule__l1 5000 a b) (n := a.length) (P := fun q => lget a (q : Int) = lget b (q : Int)) (c := some true) (d := some false)
      (fun j i hi => by
        rw [slices_Equal_api_Rule_api_Rule__l1.eq_2, if_pos (by omega), if_pos ⟨by omega, by omega⟩, if_pos ⟨by omega, by omega⟩, w64n (by omega)]
        exact ⟨fun p => by rw [if_neg (by simp [p])], fun p => by rw [if_pos (by simp [p])]⟩)
      (fun j => by rw [slices_Equal_api_Rule_api_Rule__l1.eq_2, if_neg (by omega)]; rfl) a.length 0 5000 (by omega) (by omega)
    rw [← lists_eq hl] at h1 h2
    rw [e]
    by_cases q : a = b
    · exact .tt (h1 q) q
    · exact .ff (h2 q) q
  · exact .ff (by unfold slices_Equal_api_Rule_api_Rule_; rw [if_pos (by omega)]) fun e => hl (by rw [e])
theorem strs_is (a b : List ByteArray) (ha : a.length ≤ 1000) : BoolIs (slices_Equal_string_string_ 5000 a b) (a = b) := by
  by_cases hl : a.length = b.length
  · have e : slices_Equal_string_string_ 5000 a b = slices_Equal_string_string__l1 5000 a b 5000 ((0 : Nat) : Int) := by unfold slices_Equal_string_string_; rw [if_neg (by omega)]; rfl
    obtain ⟨h1, h2⟩ := loopAll (f := slices_Equal_string_string__l1 5000 a b) (n := a.length) (P := fun q => lget a (q : Int) = lget b (q : Int)) (c := some true) (d := some false)
      (fun j i hi => by
        rw [slices_Equal_string_string__l1.eq_2, if_pos (by omega), if_pos ⟨by omega, by omega⟩, if_pos ⟨by omega, by omega⟩, w64n (by omega)]
        exact ⟨fun p => by rw [if_neg (by simp [p])], fun p => by rw [if_pos (by simp [p])]⟩)
      (fun j => by rw [slices_Equal_string_string__l1.eq_2, if_neg (by omega)]; rfl) a.length 0 5000 (by omega) (by omega)
    rw [← lists_eq hl] at h1 h2
    rw [e]
    by_cases q : a = b
    · exact .tt (h1 q) q
    · exact .ff (h2 q) q
  · exact .ff (by unfold slices_Equal_string_string_; rw [if_pos (by omega)]) fun e => hl (by rw [e])
theorem syms_is (a b : List S41) (ha : a.length ≤ 1000) : BoolIs (slices_Equal_api_Sym_api_Sym_ 5000 a b) (a = b) := by
  by_cases hl : a.length = b.length
  · have e : slices_Equal_api_Sym_api_Sym_ 5000 a b = slices_Equal_api_Sym_api_Sym__l1 5000 a b 5000 ((0 : Nat) : Int) := by unfold slices_Equal_api_Sym_api_Sym_; rw [if_neg (by omega)]; rfl
    obtain ⟨h1, h2⟩ := loopAll (f := slices_Equal_api_Sym_api_Sym__l1 5000 a b) (n := a.length) (P := fun q => lget a (q : Int) = lget b (q : Int)) (c := some true) (d := some false)
      (fun j i hi => by
        rw [slices_Equal_api_Sym_api_Sym__l1.eq_2, if_pos (by omega), if_pos ⟨by omega, by omega⟩, if_pos ⟨by omega, by omega⟩, w64n (by omega)]
        exact ⟨fun p => by rw [if_neg (by simp [p])], fun p => by rw [if_pos (by simp [p])]⟩)
      (fun j => by rw [slices_Equal_api_Sym_api_Sym__l1.eq_2, if_neg (by omega)]; rfl) a.length 0 5000 (by omega) (by omega)
    rw [← lists_eq hl] at h1 h2
    rw [e]
    by_cases q : a = b
    · exact .tt (h1 q) q
    · exact .ff (h2 q) q
  · exact .ff (by unfold slices_Equal_api_Sym_api_Sym_; rw [if_pos (by omega)]) fun e => hl (by rw [e])
theorem ints_is (a b : List Int) (ha : a.length ≤ 1000) : BoolIs (slices_Equal_int_int_ 5000 a b) (a = b) := by
  by_cases hl : a.length = b.length
  · have e : slices_Equal_int_int_ 5000 a b = slices_Equal_int_int__l1 5000 a b 5000 ((0 : Nat) : Int) := by unfold slices_Equal_int_int_; rw [if_neg (by omega)]; rfl
    obtain ⟨h1, h2⟩ := loopAll (f := slices_Equal_int_int__l1 5000 a b) (n := a.length) (P := fun q => lget a (q : Int) = lget b (q : Int)) (c := some true) (d := some false)
      (fun j i hi => by
        rw [slices_Equal_int_int__l1.eq_2, if_pos (by omega), if_pos ⟨by omega, by omega⟩, if_pos ⟨by omega, by omega⟩, w64n (by omega)]
        exact ⟨fun p => by rw [if_neg (by simp [p])], fun p => by rw [if_pos (by simp [p])]⟩)
      (fun j => by rw [slices_Equal_int_int__l1.eq_2, if_neg (by omega)]; rfl) a.length 0 5000 (by omega) (by omega)
    rw [← lists_eq hl] at h1 h2
    rw [e]
    by_cases q : a = b
    · exact .tt (h1 q) q
    · exact .ff (h2 q) q
  · exact .ff (by unfold slices_Equal_int_int_; rw [if_pos (by omega)]) fun e => hl (by rw [e])
theorem rsame_is (a b : List Int) (ha : a.length ≤ 1000) : BoolIs (bosketref17_same 5000 a b) (a = b) := by
  by_cases hl : a.length = b.length
  · have e : bosketref17_same 5000 a b = bosketref17_same_l1 5000 a b 5000 ((0 : Nat) : Int) := by unfold bosketref17_same; rw [if_neg (by omega)]; rfl
    obtain ⟨h1, h2⟩ := loopAll (f := bosketref17_same_l1 5000 a b) (n := a.length) (P := fun q => lget a (q : Int) = lget b (q : Int)) (c := some true) (d := some false)
      (fun j i hi => by
        rw [bosketref17_same_l1.eq_2, if_pos (by omega), if_pos ⟨by omega, by omega⟩, if_pos ⟨by omega, by omega⟩, w64n (by omega)]
        exact ⟨fun p => by rw [if_neg (by simp [p])], fun p => by rw [if_pos (by simp [p])]⟩)
      (fun j => by rw [bosketref17_same_l1.eq_2, if_neg (by omega)]; rfl) a.length 0 5000 (by omega) (by omega)
    rw [← lists_eq hl] at h1 h2
    rw [e]
    by_cases q : a = b
    · exact .tt (h1 q) q
    · exact .ff (h2 q) q
  · exact .ff (by unfold bosketref17_same; rw [if_pos (by omega)]) fun e => hl (by rw [e])
theorem mem_get {α : Type} [Inhabited α] (l : List α) {i : Nat} (h : i < l.length) : lget l (i : Int) ∈ l := by rw [lget_lt l i h]; exact List.getElem_mem h
theorem level_is (a b : S86) (h : a.f1.length ≤ 1000) : BoolIs (gram_sameLevel 5000 a b) (a = b) := by
  obtain ⟨t, t1, t2⟩ := ints_is a.f1 b.f1 h
  unfold gram_sameLevel
  rw [t1]
  by_cases c : a.f0 = b.f0
  · rw [if_pos c]
    refine ⟨t, rfl, ?_⟩
    rw [t2]
    cases a; cases b; simp_all
  · rw [if_neg c]
    exact .ff rfl fun e => c (by rw [e])
def P37 (p : S37) : Prop := p.f2.length ≤ 1000 ∧ p.f5.length ≤ 1000
theorem prod_is (a b : S37) (h : P37 a) : BoolIs (gram_sameProd 5000 a b) (a = b) := by
  obtain ⟨t, t1, t2⟩ := syms_is a.f2 b.f2 h.1
  obtain ⟨u, u1, u2⟩ := ints_is a.f5 b.f5 h.2
  unfold gram_sameProd
  rw [t1, u1]
  by_cases c0 : a.f0 = b.f0
  · by_cases c1 : a.f1 = b.f1
    · by_cases c3 : a.f3 = b.f3
      · by_cases c4 : a.f4 = b.f4
        · rw [if_pos c0, if_pos c1, if_pos (by simp [c3]), if_pos c4, Option.bind_some]
          by_cases ct : t = true
          · rw [if_pos ct, Option.bind_some]
            refine ⟨u, rfl, ?_⟩
            rw [u2]
            have := t2.1 ct
            cases a; cases b; simp_all
          · rw [if_neg ct]
            exact .ff rfl fun e => ct (t2.2 (by rw [e]))
        · rw [if_pos c0, if_pos c1, if_pos (by simp [c3]), if_neg c4]
          exact .ff rfl fun e => c4 (by rw [e])
      · rw [if_pos c0, if_pos c1, if_neg (by simp [c3])]
        exact .ff rfl fun e => c3 (by rw [e])
    · rw [if_pos c0, if_neg c1]
      exact .ff rfl fun e => c1 (by rw [e])
  · rw [if_neg c0]
    exact .ff rfl fun e => c0 (by rw [e])
theorem prods_is (a b : List S37) (ha : a.length ≤ 1000) (hc : ∀ x ∈ a, ∀ y ∈ b, BoolIs (gram_sameProd 5000 x y) (x = y)) : BoolIs (slices_EqualFunc_api_Prod_api_Prod_api_Prod_api_Prod_ 5000 a b) (a = b) := by
  by_cases hl : a.length = b.length
  · have e : slices_EqualFunc_api_Prod_api_Prod_api_Prod_api_Prod_ 5000 a b = slices_EqualFunc_api_Prod_api_Prod_api_Prod_api_Prod__l1 5000 a b 5000 ((0 : Nat) : Int) := by unfold slices_EqualFunc_api_Prod_api_Prod_api_Prod_api_Prod_; rw [if_neg (by omega)]; rfl
    obtain ⟨h1, h2⟩ := loopAll (f := slices_EqualFunc_api_Prod_api_Prod_api_Prod_api_Prod__l1 5000 a b) (n := a.length) (P := fun q => lget a (q : Int) = lget b (q : Int)) (c := some true) (d := some false)
      (fun j i hi => by
        obtain ⟨t, t1, t2⟩ := hc (lget a (i : Int)) (mem_get a hi) (lget b (i : Int)) (mem_get b (by omega))
        rw [slices_EqualFunc_api_Prod_api_Prod_api_Prod_api_Prod__l1.eq_2, if_pos (by omega), if_pos ⟨by omega, by omega⟩, if_pos ⟨by omega, by omega⟩, w64n (by omega), t1, Option.bind_some]
        refine ⟨fun p => ?_, fun p => ?_⟩
        · rw [t2.2 p]; rfl
        · rw [Bool.eq_false_iff.2 (fun k => p (t2.1 k))]; rfl)
      (fun j => by rw [slices_EqualFunc_api_Prod_api_Prod_api_Prod_api_Prod__l1.eq_2, if_neg (by omega)]; rfl) a.length 0 5000 (by omega) (by omega)
    rw [← lists_eq hl] at h1 h2
    rw [e]
    by_cases q : a = b
    · exact .tt (h1 q) q
    · exact .ff (h2 q) q
  · exact .ff (by unfold slices_EqualFunc_api_Prod_api_Prod_api_Prod_api_Prod_; rw [if_pos (by omega)]) fun e => hl (by rw [e])
theorem levels_is (a b : List S86) (ha : a.length ≤ 1000) (hc : ∀ x ∈ a, ∀ y ∈ b, BoolIs (gram_sameLevel 5000 x y) (x = y)) : BoolIs (slices_EqualFunc_api_Level_api_Level_api_Level_api_Level_ 5000 a b) (a = b) := by
  by_cases hl : a.length = b.length
  · have e : slices_EqualFunc_api_Level_api_Level_api_Level_api_Level_ 5000 a b = slices_EqualFunc_api_Level_api_Level_api_Level_api_Level__l1 5000 a b 5000 ((0 : Nat) : Int) := by unfold slices_EqualFunc_api_Level_api_Level_api_Level_api_Level_; rw [if_neg (by omega)]; rfl
    obtain ⟨h1, h2⟩ := loopAll (f := slices_EqualFunc_api_Level_api_Level_api_Level_api_Level__l1 5000 a b) (n := a.length) (P := fun q => lget a (q : Int) = lget b (q : Int)) (c := some true) (d := some false)
      (fun j i hi => by
        obtain ⟨t, t1, t2⟩ := hc (lget a (i : Int)) (mem_get a hi) (lget b (i : Int)) (mem_get b (by omega))
        rw [slices_EqualFunc_api_Level_api_Level_api_Level_api_Level__l1.eq_2, if_pos (by omega), if_pos ⟨by omega, by omega⟩, if_pos ⟨by omega, by omega⟩, w64n (by omega), t1, Option.bind_some]
        refine ⟨fun p => ?_, fun p => ?_⟩
        · rw [t2.2 p]; rfl
        · rw [Bool.eq_false_iff.2 (fun k => p (t2.1 k))]; rfl)
      (fun j => by rw [slices_EqualFunc_api_Level_api_Level_api_Level_api_Level__l1.eq_2, if_neg (by omega)]; rfl) a.length 0 5000 (by omega) (by omega)
    rw [← lists_eq hl] at h1 h2
    rw [e]
    by_cases q : a = b
    · exact .tt (h1 q) q
    · exact .ff (h2 q) q
  · exact .ff (by unfold slices_EqualFunc_api_Level_api_Level_api_Level_api_Level_; rw [if_pos (by omega)]) fun e => hl (by rw [e])
/-- A grammar whose rows are not too long. -/
structure Sm (g : S27) : Prop where
  r : g.f0.length ≤ 1000
  s : g.f1.length ≤ 1000
  p : g.f2.length ≤ 1000
  l : g.f3.length ≤ 1000
  ps : ∀ x ∈ g.f2, P37 x
  ls : ∀ x ∈ g.f3, x.f1.length ≤ 1000
theorem same_is (a b : S27) (h : Sm a) : BoolIs (gram_Same 5000 a b) (a = b) := by
  obtain ⟨t, t1, t2⟩ := rules_is a.f0 b.f0 h.r
  obtain ⟨u, u1, u2⟩ := strs_is a.f1 b.f1 h.s
  obtain ⟨v, v1, v2⟩ := prods_is a.f2 b.f2 h.p fun x hx y _ => prod_is x y (h.ps x hx)
  obtain ⟨z, z1, z2⟩ := levels_is a.f3 b.f3 h.l fun x hx y _ => level_is x y (h.ls x hx)
  unfold gram_Same
  rw [t1, u1, v1, z1, Option.bind_some, Option.bind_some, Option.bind_some, Option.bind_some]
  by_cases ct : t = true
  · rw [if_pos ct]
    by_cases cu : u = true
    · rw [if_pos cu]
      by_cases c4 : a.f4 = b.f4
      · rw [if_pos c4]
        by_cases cv : v = true
        · rw [if_pos cv]
          refine ⟨z, rfl, ?_⟩
          rw [z2]
          have := t2.1 ct
          have := u2.1 cu
          have := v2.1 cv
          cases a; cases b; simp_all
        · rw [if_neg cv]
          exact .ff rfl fun e => cv (v2.2 (by rw [e]))
      · rw [if_neg c4]
        exact .ff rfl fun e => c4 (by rw [e])
    · rw [if_neg cu]
      exact .ff rfl fun e => cu (u2.2 (by rw [e]))
  · rw [if_neg ct]
    exact .ff rfl fun e => ct (t2.2 (by rw [e]))
end Go.Avl.T7
/- Which grammars are tried; the document's Same. -/
namespace Go.Avl.T7
open Go Go.RowKit Go.Proofs Go.Avl
set_option linter.all false
set_option maxRecDepth 10000

def RuleFew (r : S82) : Prop := r.f2.size ≤ 40 ∧ r.f0.size ≤ 100
theorem rfew_is (l : List S82) : ∃ b, bosketlaw11_Few 5000 l = some b ∧ (b = true → l.length ≤ 20 ∧ ∀ r ∈ l, RuleFew r) := by
  by_cases hl : (20 : Int) < (l.length : Int)
  · exact ⟨false, by unfold bosketlaw11_Few; rw [if_pos hl], fun h => by cases h⟩
  · have e : bosketlaw11_Few 5000 l = bosketlaw11_Few_l1 5000 l 5000 ((0 : Nat) : Int) := by unfold bosketlaw11_Few; rw [if_neg hl]; rfl
    obtain ⟨h1, h2⟩ := loopAll (f := bosketlaw11_Few_l1 5000 l) (n := l.length) (P := fun q => RuleFew (lget l (q : Int))) (c := some true) (d := some false)
      (fun j i hi => by
        have g : 0 ≤ (i : Int) ∧ (i : Int) < (l.length : Int) := ⟨by omega, by omega⟩
        rw [bosketlaw11_Few_l1.eq_2, if_pos g.2, if_pos g, w64n (by omega)]
        unfold RuleFew
        by_cases c : (40 : Int) < (((lget l (i : Int)).f2).size : Int)
        · rw [if_pos c]
          exact ⟨fun p => by omega, fun _ => rfl⟩
        · rw [if_neg c, if_pos g]
          by_cases c2 : (100 : Int) < (((lget l (i : Int)).f0).size : Int)
          · rw [decide_eq_true c2]
            exact ⟨fun p => by omega, fun _ => rfl⟩
          · rw [decide_eq_false c2]
            exact ⟨fun _ => rfl, fun p => absurd ⟨by omega, by omega⟩ p⟩)
      (fun j => by rw [bosketlaw11_Few_l1.eq_2, if_neg (by omega)]; rfl) l.length 0 5000 (by omega) (by omega)
    rw [e]
    by_cases q : ∀ q : Nat, 0 ≤ q → q < l.length → RuleFew (lget l (q : Int))
    · refine ⟨true, h1 q, fun _ => ⟨by omega, fun r hr => ?_⟩⟩
      obtain ⟨i, hi, rfl⟩ := List.getElem_of_mem hr
      have := q i (by omega) hi
      rwa [lget_lt l i hi] at this
    · exact ⟨false, h2 q, fun h => by cases h⟩
structure Fw (g : S27) : Prop where
  r : g.f0.length ≤ 20
  rs : ∀ r ∈ g.f0, RuleFew r
  s : g.f1.length ≤ 20
  ss : ∀ x ∈ g.f1, x.size ≤ 100
  p : g.f2.length ≤ 40
  ps : ∀ x ∈ g.f2, x.f2.length ≤ 20 ∧ x.f5.length ≤ 20 ∧ x.f1.size ≤ 100
  l : g.f3.length ≤ 20
  ls : ∀ x ∈ g.f3, x.f1.length ≤ 20
theorem Fw.sm {g : S27} (h : Fw g) : Sm g :=
  ⟨by have := h.r; omega, by have := h.s; omega, by have := h.p; omega, by have := h.l; omega, fun x hx => by
    have := h.ps x hx
    exact ⟨by omega, by omega⟩, fun x hx => by have := h.ls x hx; omega⟩
theorem all_mem {α : Type} [Inhabited α] {l : List α} {P : α → Prop} (h : ∀ q : Nat, 0 ≤ q → q < l.length → P (lget l (q : Int))) : ∀ x ∈ l, P x := fun r hr => by
  obtain ⟨i, hi, rfl⟩ := List.getElem_of_mem hr
  have := h i (by omega) hi
  rwa [lget_lt l i hi] at this
theorem few_is (g : S27) : ∃ b, bosketlaw17_Few 5000 g = some b ∧ (b = true → Fw g) := by
  obtain ⟨t, t1, t2⟩ := rfew_is g.f0
  unfold bosketlaw17_Few
  rw [t1, Option.bind_some]
  by_cases ct : t = true
  · rw [ct, if_neg (by decide)]
    by_cases c1 : (20 : Int) < (g.f1.length : Int)
    · rw [if_pos c1]; exact ⟨false, rfl, fun h => by cases h⟩
    · rw [if_neg c1]
      by_cases c2 : (40 : Int) < (g.f2.length : Int)
      · rw [if_pos c2]; exact ⟨false, rfl, fun h => by cases h⟩
      · rw [if_neg c2, Option.bind_some]
        by_cases c3 : (20 : Int) < (g.f3.length : Int)
        · rw [decide_eq_true c3, if_pos rfl]; exact ⟨false, rfl, fun h => by cases h⟩
        · rw [decide_eq_false c3, if_neg (by decide)]
          obtain ⟨a1, a2⟩ := loopAll (f := bosketlaw17_Few_l1 5000 g) (n := g.f3.length) (P := fun q => (lget g.f3 (q : Int)).f1.length ≤ 20) (c := some true) (d := some false)
            (fun j i hi => by
              have g0 : 0 ≤ (i : Int) ∧ (i : Int) < (g.f3.length : Int) := ⟨by omega, by omega⟩
              rw [bosketlaw17_Few_l1.eq_2, if_pos g0.2, if_pos g0, w64n (by omega)]
              exact ⟨fun p => by rw [if_neg (by omega)], fun p => by rw [if_pos (by omega)]⟩)
            (fun j => by rw [bosketlaw17_Few_l1.eq_2, if_neg (by omega)]; rfl) g.f3.length 0 5000 (by omega) (by omega)
          obtain ⟨b1, b2⟩ := loopAll (f := bosketlaw17_Few_l3 5000 g) (n := g.f2.length) (P := fun q => (lget g.f2 (q : Int)).f2.length ≤ 20 ∧ (lget g.f2 (q : Int)).f5.length ≤ 20 ∧ (lget g.f2 (q : Int)).f1.size ≤ 100) (c := bosketlaw17_Few_c2 5000 g) (d := some false)
            (fun j i hi => by
              have g0 : 0 ≤ (i : Int) ∧ (i : Int) < (g.f2.length : Int) := ⟨by omega, by omega⟩
              rw [bosketlaw17_Few_l3.eq_2, if_pos g0.2, if_pos g0, w64n (by omega)]
              by_cases d1 : (20 : Int) < (((lget g.f2 (i : Int)).f2).length : Int)
              · rw [if_pos d1]; exact ⟨fun p => by omega, fun _ => rfl⟩
              · rw [if_neg d1, if_pos g0]
                by_cases d2 : (20 : Int) < (((lget g.f2 (i : Int)).f5).length : Int)
                · rw [if_pos d2]; exact ⟨fun p => by omega, fun _ => rfl⟩
                · rw [if_neg d2, if_pos g0]
                  by_cases d3 : (100 : Int) < (((lget g.f2 (i : Int)).f1).size : Int)
                  · rw [decide_eq_true d3]; exact ⟨fun p => by omega, fun _ => rfl⟩
                  · rw [decide_eq_false d3]; exact ⟨fun _ => rfl, fun p => absurd ⟨by omega, by omega, by omega⟩ p⟩)
            (fun j => by rw [bosketlaw17_Few_l3.eq_2, if_neg (by omega)]) g.f2.length 0 5000 (by omega) (by omega)
          obtain ⟨e1, e2⟩ := loopAll (f := bosketlaw17_Few_l5 5000 g) (n := g.f1.length) (P := fun q => (lget g.f1 (q : Int)).size ≤ 100) (c := bosketlaw17_Few_c4 5000 g) (d := some false)
            (fun j i hi => by
              have g0 : 0 ≤ (i : Int) ∧ (i : Int) < (g.f1.length : Int) := ⟨by omega, by omega⟩
              rw [bosketlaw17_Few_l5.eq_2, if_pos g0.2, if_pos g0, w64n (by omega)]
              exact ⟨fun p => by rw [if_neg (by omega)], fun p => by rw [if_pos (by omega)]⟩)
            (fun j => by rw [bosketlaw17_Few_l5.eq_2, if_neg (by omega)]) g.f1.length 0 5000 (by omega) (by omega)
          by_cases q1 : ∀ q : Nat, 0 ≤ q → q < g.f1.length → (lget g.f1 (q : Int)).size ≤ 100
          · by_cases q2 : ∀ q : Nat, 0 ≤ q → q < g.f2.length → (lget g.f2 (q : Int)).f2.length ≤ 20 ∧ (lget g.f2 (q : Int)).f5.length ≤ 20 ∧ (lget g.f2 (q : Int)).f1.size ≤ 100
            · by_cases q3 : ∀ q : Nat, 0 ≤ q → q < g.f3.length → (lget g.f3 (q : Int)).f1.length ≤ 20
              · refine ⟨true, (e1 q1).trans ((b1 q2).trans (a1 q3)), fun _ => ?_⟩
                have := t2 ct
                exact ⟨this.1, this.2, by omega, all_mem q1, by omega, all_mem q2, by omega, all_mem q3⟩
              · exact ⟨false, (e1 q1).trans ((b1 q2).trans (a2 q3)), fun h => by cases h⟩
            · exact ⟨false, (e1 q1).trans (b2 q2), fun h => by cases h⟩
          · exact ⟨false, e2 q1, fun h => by cases h⟩
  · rw [Bool.eq_false_iff.2 ct]; exact ⟨false, rfl, fun h => by cases h⟩
/-! The document's Same. -/
theorem rprod_is (a b : S37) (h : P37 a) : BoolIs (bosketref17_sameProd 5000 a b) (a = b) := by
  obtain ⟨u, u1, u2⟩ := rsame_is a.f5 b.f5 h.2
  unfold bosketref17_sameProd
  rw [u1]
  by_cases c0 : a.f0 = b.f0
  · by_cases c1 : a.f1 = b.f1
    · by_cases c3 : a.f3 = b.f3
      · by_cases c4 : a.f4 = b.f4
        · by_cases c2 : (a.f2.length : Int) = (b.f2.length : Int)
          · rw [if_neg (by simp [c0]), if_neg (by simp [c1]), if_neg (by simp [c3]), if_neg (by simp [c4]), if_neg (by simp [c2]), Option.bind_some, Option.bind_some]
            by_cases cu : u = true
            · rw [cu, if_neg (by decide)]
              have hl : a.f2.length = b.f2.length := by omega
              have hz := h.1
              obtain ⟨h1, h2⟩ := loopAll (f := bosketref17_sameProd_l1 5000 a b) (n := a.f2.length) (P := fun q => lget a.f2 (q : Int) = lget b.f2 (q : Int)) (c := some true) (d := some false)
                (fun j i hi => by
                  rw [bosketref17_sameProd_l1.eq_2, if_pos (by omega), if_pos ⟨by omega, by omega⟩, if_pos ⟨by omega, by omega⟩, w64n (by omega)]
                  exact ⟨fun p => by rw [if_neg (by simp [p])], fun p => by rw [if_pos (by simp [p])]⟩)
                (fun j => by rw [bosketref17_sameProd_l1.eq_2, if_neg (by omega)]; rfl) a.f2.length 0 5000 (by omega) (by omega)
              rw [← lists_eq hl] at h1 h2
              by_cases q : a.f2 = b.f2
              · refine .tt (h1 q) ?_
                have := u2.1 cu
                cases a; cases b; simp_all
              · exact .ff (h2 q) fun e => q (by rw [e])
            · rw [Bool.eq_false_iff.2 cu, if_pos (by decide)]
              exact .ff rfl fun e => cu (u2.2 (by rw [e]))
          · rw [if_neg (by simp [c0]), if_neg (by simp [c1]), if_neg (by simp [c3]), if_neg (by simp [c4]), if_pos c2]
            exact .ff rfl fun e => c2 (by rw [e])
        · rw [if_neg (by simp [c0]), if_neg (by simp [c1]), if_neg (by simp [c3]), if_pos c4]
          exact .ff rfl fun e => c4 (by rw [e])
      · rw [if_neg (by simp [c0]), if_neg (by simp [c1]), if_pos (by simpa using c3)]
        exact .ff rfl fun e => c3 (by rw [e])
    · rw [if_neg (by simp [c0]), if_pos c1]
      exact .ff rfl fun e => c1 (by rw [e])
  · rw [if_pos c0]
    exact .ff rfl fun e => c0 (by rw [e])
theorem rsameG_is (a b : S27) (h : Sm a) : BoolIs (bosketref17_Same 5000 a b) (a = b) := by
  have z1 := h.r
  have z2 := h.s
  have z3 := h.p
  have z4 := h.l
  unfold bosketref17_Same
  by_cases l0 : (a.f0.length : Int) = (b.f0.length : Int)
  · by_cases l1 : (a.f1.length : Int) = (b.f1.length : Int)
    · by_cases l2 : (a.f2.length : Int) = (b.f2.length : Int)
      · by_cases l3 : (a.f3.length : Int) = (b.f3.length : Int)
        · by_cases l4 : a.f4 = b.f4
          · rw [if_neg (by simp [l0]), if_neg (by simp [l1]), if_neg (by simp [l2]), if_neg (by simp [l3]), Option.bind_some, decide_eq_false (by simp [l4]), if_neg (by decide)]
            obtain ⟨a1, a2⟩ := loopAll (f := bosketref17_Same_l1 5000 a b) (n := a.f3.length) (P := fun q => lget a.f3 (q : Int) = lget b.f3 (q : Int)) (c := some true) (d := some false)
              (fun j i hi => by
                have g0 : 0 ≤ (i : Int) ∧ (i : Int) < (a.f3.length : Int) := ⟨by omega, by omega⟩
                have g1 : 0 ≤ (i : Int) ∧ (i : Int) < (b.f3.length : Int) := ⟨by omega, by omega⟩
                obtain ⟨t, t1, t2⟩ := rsame_is (lget a.f3 (i : Int)).f1 (lget b.f3 (i : Int)).f1 (h.ls _ (mem_get a.f3 hi))
                rw [bosketref17_Same_l1.eq_2, if_pos g0.2, if_pos g0, if_pos g1, if_pos g0, if_pos g1, t1, Option.bind_some, w64n (by omega)]
                have st : lget a.f3 (i : Int) = lget b.f3 (i : Int) ↔ (lget a.f3 (i : Int)).f0 = (lget b.f3 (i : Int)).f0 ∧ (lget a.f3 (i : Int)).f1 = (lget b.f3 (i : Int)).f1 := by
                  generalize lget a.f3 (i : Int) = x
                  generalize lget b.f3 (i : Int) = y
                  cases x; cases y; simp
                rw [st, ← t2]
                by_cases c : (lget a.f3 (i : Int)).f0 = (lget b.f3 (i : Int)).f0
                · rw [if_neg (by simp [c]), Option.bind_some]
                  cases t with
                  | true => exact ⟨fun _ => rfl, fun p => absurd ⟨c, rfl⟩ p⟩
                  | false => exact ⟨fun p => Bool.noConfusion p.2, fun _ => rfl⟩
                · rw [if_pos c]
                  exact ⟨fun p => absurd p.1 c, fun _ => rfl⟩)
              (fun j => by rw [bosketref17_Same_l1.eq_2, if_neg (by omega)]; rfl) a.f3.length 0 5000 (by omega) (by omega)
            obtain ⟨b1, b2⟩ := loopAll (f := bosketref17_Same_l3 5000 a b) (n := a.f2.length) (P := fun q => lget a.f2 (q : Int) = lget b.f2 (q : Int)) (c := bosketref17_Same_c2 5000 a b) (d := some false)
              (fun j i hi => by
                have g0 : 0 ≤ (i : Int) ∧ (i : Int) < (a.f2.length : Int) := ⟨by omega, by omega⟩
                have g1 : 0 ≤ (i : Int) ∧ (i : Int) < (b.f2.length : Int) := ⟨by omega, by omega⟩
                obtain ⟨t, t1, t2⟩ := rprod_is (lget a.f2 (i : Int)) (lget b.f2 (i : Int)) (h.ps _ (mem_get a.f2 hi))
                rw [bosketref17_Same_l3.eq_2, if_pos g0.2, if_pos g0, if_pos g1, t1, Option.bind_some, w64n (by omega), ← t2]
                cases t with
                | true => exact ⟨fun _ => rfl, fun p => absurd rfl p⟩
                | false => exact ⟨fun p => Bool.noConfusion p, fun _ => rfl⟩)
              (fun j => by rw [bosketref17_Same_l3.eq_2, if_neg (by omega)]) a.f2.length 0 5000 (by omega) (by omega)
            obtain ⟨d1, d2⟩ := loopAll (f := bosketref17_Same_l5 5000 a b) (n := a.f1.length) (P := fun q => lget a.f1 (q : Int) = lget b.f1 (q : Int)) (c := bosketref17_Same_c4 5000 a b) (d := some false)
              (fun j i hi => by
                rw [bosketref17_Same_l5.eq_2, if_pos (by omega), if_pos ⟨by omega, by omega⟩, if_pos ⟨by omega, by omega⟩, w64n (by omega)]
                exact ⟨fun p => by rw [if_neg (by simp [p])], fun p => by rw [if_pos p]⟩)
              (fun j => by rw [bosketref17_Same_l5.eq_2, if_neg (by omega)]) a.f1.length 0 5000 (by omega) (by omega)
            obtain ⟨e1, e2⟩ := loopAll (f := bosketref17_Same_l7 5000 a b) (n := a.f0.length) (P := fun q => lget a.f0 (q : Int) = lget b.f0 (q : Int)) (c := bosketref17_Same_c6 5000 a b) (d := some false)
              (fun j i hi => by
                rw [bosketref17_Same_l7.eq_2, if_pos (by omega), if_pos ⟨by omega, by omega⟩, if_pos ⟨by omega, by omega⟩, w64n (by omega)]
                exact ⟨fun p => by rw [if_neg (by simp [p])], fun p => by rw [if_pos (by simp [p])]⟩)
              (fun j => by rw [bosketref17_Same_l7.eq_2, if_neg (by omega)]) a.f0.length 0 5000 (by omega) (by omega)
            rw [← lists_eq (by omega)] at a1 a2 b1 b2 d1 d2 e1 e2
            by_cases q0 : a.f0 = b.f0
            · by_cases q1 : a.f1 = b.f1
              · by_cases q2 : a.f2 = b.f2
                · by_cases q3 : a.f3 = b.f3
                  · refine .tt ((e1 q0).trans ((d1 q1).trans ((b1 q2).trans (a1 q3)))) ?_
                    cases a; cases b; simp_all
                  · exact .ff ((e1 q0).trans ((d1 q1).trans ((b1 q2).trans (a2 q3)))) fun e => q3 (by rw [e])
                · exact .ff ((e1 q0).trans ((d1 q1).trans (b2 q2))) fun e => q2 (by rw [e])
              · exact .ff ((e1 q0).trans (d2 q1)) fun e => q1 (by rw [e])
            · exact .ff (e2 q0) fun e => q0 (by rw [e])
          · rw [if_neg (by simp [l0]), if_neg (by simp [l1]), if_neg (by simp [l2]), if_neg (by simp [l3]), Option.bind_some, decide_eq_true l4, if_pos rfl]
            exact .ff rfl fun e => l4 (by rw [e])
        · rw [if_neg (by simp [l0]), if_neg (by simp [l1]), if_neg (by simp [l2]), if_pos l3]
          exact .ff rfl fun e => l3 (by rw [e])
      · rw [if_neg (by simp [l0]), if_neg (by simp [l1]), if_pos l2]
        exact .ff rfl fun e => l2 (by rw [e])
    · rw [if_neg (by simp [l0]), if_pos l1]
      exact .ff rfl fun e => l1 (by rw [e])
  · rw [if_pos l0]
    exact .ff rfl fun e => l0 (by rw [e])
end Go.Avl.T7
/- GramSame: the plain law. -/
namespace Go.Avl.T7
open Go Go.RowKit Go.Proofs Go.Avl
set_option linter.all false

theorem bosketlaw17_GramSame_true (a0 : S27) (a1 : S27) (h0 : wf27 a0) (h1 : wf27 a1) : ∃ k, bosketlaw17_GramSame k a0 a1 = some true := by
  refine ⟨5000, ?_⟩
  obtain ⟨b, b1, b2⟩ := few_is a0
  obtain ⟨c, c1, c2⟩ := few_is a1
  unfold bosketlaw17_GramSame
  rw [awake17, Option.bind_some, if_neg (by decide), b1, c1, Option.bind_some, Option.bind_some]
  cases b with
  | false => rfl
  | true =>
    cases c with
    | false => rfl
    | true =>
      obtain ⟨t, t1, t2⟩ := same_is a0 a1 (b2 rfl).sm
      obtain ⟨u, u1, u2⟩ := rsameG_is a0 a1 (b2 rfl).sm
      rw [t1, u1]
      have : t = u := by
        cases t <;> cases u <;> simp_all
      subst this
      simp
end Go.Avl.T7
