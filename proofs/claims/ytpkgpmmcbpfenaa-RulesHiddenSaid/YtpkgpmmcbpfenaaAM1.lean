/- Parts: T7W, T7G0, T7A0, T7S1, T7N1, T7D0, T7D1, T7D2, T7H1, T7H2, T7H3, T7PureRulesHidden. -/
import Derived.Test.YtpkgpmmcbpfenaaAF1
import Derived.Test.YtpkgpmmcbpfenaaAv3
import Derived.Test.YtpkgpmmcbpfenaaAF11
import Derived.Test.YtpkgpmmcbpfenaaAF10
import Derived.Test.YtpkgpmmcbpfenaaAF4
import Derived.Laws.Bits64b
import Derived.Test.YtpkgpmmcbpfenaaAF5
import Derived.Test.YtpkgpmmcbpfenaaAF6
import Derived.Test.YtpkgpmmcbpfenaaAF7
import Derived.Test.YtpkgpmmcbpfenaaAF9
/- Opening of the arguments; printed by avlaw.py. -/
namespace Go.Avl.T7
open Go Go.RowKit Go.Proofs Go.Avl
set_option linter.unusedVariables false
set_option maxRecDepth 100000
abbrev e53 (l : List (List Int)) : AV := .fz 1 (l.map e35)
abbrev wf3 : Int → Prop := (fun n : Int => (Lit.int .i64 n).wf = true)
theorem op3 : Opens Try.prog 3 eI64 wf3 := opens_int Try.underlying3
abbrev wf35 : (List Int) → Prop := (fun l : List Int => l.length ≤ 9223372036854775807 ∧ ∀ a ∈ l, wf3 a)
theorem op35 : Opens Try.prog 35 e35 wf35 := opens_slice Try.underlying35 sz3 op3
abbrev wf5 : Int → Prop := (fun n : Int => (Lit.int .u8 n).wf = true)
theorem op5 : Opens Try.prog 5 eU8 wf5 := opens_int Try.underlying5
abbrev wf52 : (Vector Int 256) → Prop := (fun l : Vector Int 256 => ∀ a ∈ l.toList, wf5 a)
theorem op52 : Opens Try.prog 52 e52 wf52 := opens_array Try.underlying52 sz5 sz52 op5
abbrev wf53 : (List (List Int)) → Prop := (fun l : List (List Int) => l.length ≤ 9223372036854775807 ∧ ∀ a ∈ l, wf35 a)
theorem op53 : Opens Try.prog 53 e53 wf53 := opens_slice Try.underlying53 sz35 op35
abbrev wf55 : S55 → Prop := (fun x : S55 => wf52 x.f0 ∧ wf53 x.f1 ∧ wf35 x.f2)
theorem op55 : Opens Try.prog 55 e55 wf55 := (opens_struct Try.underlying55 sz55 (opensF_cons rfl sz52 (by decide) op52 (opensF_cons rfl sz53 (by decide) op53 (opensF_cons rfl sz35 (by decide) op35 (opensF_nil _))))).map (fun p => S55.mk p.1 p.2.1 p.2.2.1) (fun _ => rfl) (fun _ h => ⟨h.1, h.2.1, h.2.2.1⟩)
end Go.Avl.T7
/- The examples of the pages. -/
namespace Go.Avl.T7
open Go Go.RowKit Go.Proofs Go.Avl
set_option linter.all false
set_option maxRecDepth 10000
theorem awake11 : F26 5000 = some true := by decide +kernel
end Go.Avl.T7
/- The element of a row. -/
namespace Go.Avl.T7
open Go Go.RowKit Go.Proofs Go.Avl
theorem lget_lt {α : Type} [Inhabited α] (l : List α) (i : Nat) (h : i < l.length) : lget l (i : Int) = l[i] := by simp [lget, List.getD, List.getElem?_eq_getElem h]
end Go.Avl.T7
/- Ported: texts between quotes. -/
namespace Go.Avl.T7
open Go Go.RowKit Go.Proofs Go.Avl
set_option linter.all false
set_option maxRecDepth 10000

def U (a : Vector Int 4) : Prop := ∀ j : Nat, j < 4 → 0 ≤ vget a (j : Int) ∧ vget a (j : Int) < 18446744073709551616
end Go.Avl.T7
/- Machines that may be in several states: what both answer, as plain lists. -/
namespace Go.Avl.T7
open Go Go.RowKit Go.Proofs Go.Avl
set_option linter.all false
set_option maxRecDepth 10000

theorem lset_len {α : Type} (l : List α) (i : Int) (x : α) : (lset l i x).length = l.length := by simp [lset]
/-- How many states. -/
def cnt (x : List Bool) : Nat := x.count true
theorem cnt_le (x : List Bool) : cnt x ≤ x.length := List.count_le_length
theorem cnt_set : ∀ (x : List Bool) (i : Nat), i < x.length → x[i]? = some false → cnt (x.set i true) = cnt x + 1
  | b :: x, 0, _, h => by simp at h; subst h; simp [cnt]
  | b :: x, i + 1, hi, h => by
    have := cnt_set x i (by simpa using hi) (by simpa using h)
    simp only [cnt, List.set_cons_succ, List.count_cons] at this ⊢
    omega
end Go.Avl.T7
/- Ported: texts between quotes. -/
namespace Go.Avl.T7
open Go Go.RowKit Go.Proofs Go.Avl
set_option linter.all false
set_option maxRecDepth 10000

theorem u8_of {n : Int} (h : (Lit.int .u8 n).wf = true) : 0 ≤ n ∧ n ≤ 255 := by
  simpa [Lit.wf, show IntKind.u8.min = 0 from rfl, show IntKind.u8.max = 255 from rfl] using h
def Bytes (p0 : S55) : Prop := ∀ c : Int, 0 ≤ vget p0.f0 c ∧ vget p0.f0 c ≤ 255
theorem bytes_of {p0 : S55} (h : wf55 p0) : Bytes p0 := by
  intro c
  have h1 := h.1
  by_cases hc : c.toNat < p0.f0.toList.length
  · have : vget p0.f0 c = p0.f0.toList[c.toNat] := by simp [vget, List.getD, List.getElem?_eq_getElem hc]
    rw [this]; exact u8_of (h1 _ (List.getElem_mem hc))
  · have : vget p0.f0 c = 0 := by
      have : p0.f0.toList[c.toNat]? = none := List.getElem?_eq_none (by omega)
      simp only [vget, List.getD, this]; rfl
    rw [this]; omega

def stp (p0 : S55) (s c : Int) : Int := if s < 0 ∨ (p0.f1.length : Int) ≤ s ∨ ((lget p0.f1 s).length : Int) ≤ vget p0.f0 c then -1 else lget (lget p0.f1 s) (vget p0.f0 c)
def mk (p0 : S55) (s : Int) : Int := if s < 0 ∨ (p0.f2.length : Int) ≤ s then -1 else lget p0.f2 s

theorem small_l {p0 : S55} (k : Nat) (hn : p0.f1.length ≤ 20) : ∀ (m i : Nat), i ≤ p0.f1.length → p0.f1.length - i < m → ∃ b, F27_l1 k p0 m i = some b ∧ (b = true → ∀ j, i ≤ j → (h : j < p0.f1.length) → (p0.f1[j]).length ≤ 256)
  | 0, i, _, h => by omega
  | m + 1, i, hi, h => by
    rw [F27_l1.eq_2]
    by_cases a : (i : Int) < (p0.f1.length : Int)
    · have hlt : i < p0.f1.length := by omega
      have hrow : lget p0.f1 (i : Int) = p0.f1[i] := by simp [lget, List.getD, List.getElem?_eq_getElem hlt]
      rw [if_pos a, if_pos ⟨by omega, a⟩, hrow]
      by_cases b : (256 : Int) < ((p0.f1[i]).length : Int)
      · rw [if_pos b]; exact ⟨false, rfl, fun h => by cases h⟩
      · rw [if_neg b, w64_id (by omega) (by omega)]
        obtain ⟨c, h1, h2⟩ := small_l k hn m (i + 1) (by omega) (by omega)
        refine ⟨c, by simpa using h1, fun hc j hj hlt' => ?_⟩
        by_cases e : j = i
        · subst e; omega
        · exact h2 hc j (by omega) hlt'
    · rw [if_neg a]; exact ⟨true, rfl, fun _ j hj hlt => by omega⟩
theorem small_some (p0 : S55) {k : Nat} (hk : 5000 ≤ k) : ∃ b, F27 k p0 = some b ∧ (b = true → p0.f1.length ≤ 20 ∧ p0.f2.length ≤ 30 ∧ ∀ r ∈ p0.f1, r.length ≤ 256) := by
  unfold F27
  by_cases a : (20 : Int) < (p0.f1.length : Int)
  · rw [if_pos a, Option.bind_some, if_pos rfl]; exact ⟨_, rfl, fun h => by cases h⟩
  · rw [if_neg a, Option.bind_some]
    by_cases b : (30 : Int) < (p0.f2.length : Int)
    · rw [if_pos (by simpa using b)]; exact ⟨_, rfl, fun h => by cases h⟩
    · rw [if_neg (by simpa using b)]
      obtain ⟨c, h1, h2⟩ := small_l (p0 := p0) k (by omega) k 0 (by omega) (by omega)
      refine ⟨c, by simpa using h1, fun hc => ⟨by omega, by omega, fun r hr => ?_⟩⟩
      obtain ⟨j, hj, rfl⟩ := List.getElem_of_mem hr
      exact h2 hc j (by omega) hj
end Go.Avl.T7
/- Machines in one state: when they may be, what both answer of them. -/
namespace Go.Avl.T7
open Go Go.RowKit Go.Proofs Go.Avl
set_option linter.all false
set_option maxRecDepth 10000

/-- Of so many numbers from one on: all, some. -/
def allB (p : Nat → Bool) : Nat → Nat → Bool
  | 0, _ => true
  | m + 1, i => p i && allB p m (i + 1)
def anyB' (p : Nat → Bool) : Nat → Nat → Bool
  | 0, _ => false
  | m + 1, i => p i || anyB' p m (i + 1)
theorem allB_iff (p : Nat → Bool) : ∀ (m i : Nat), allB p m i = true ↔ ∀ j, i ≤ j → j < i + m → p j = true
  | 0, i => by simp [allB]; omega
  | m + 1, i => by
    rw [allB, Bool.and_eq_true, allB_iff p m (i + 1)]
    constructor
    · rintro ⟨h1, h2⟩ j hj hj'
      by_cases e : j = i
      · rw [e]; exact h1
      · exact h2 j (by omega) (by omega)
    · intro h
      exact ⟨h i (by omega) (by omega), fun j hj hj' => h j (by omega) (by omega)⟩
theorem anyB_iff (p : Nat → Bool) : ∀ (m i : Nat), anyB' p m i = true ↔ ∃ j, i ≤ j ∧ j < i + m ∧ p j = true
  | 0, i => by simp [anyB']; omega
  | m + 1, i => by
    rw [anyB', Bool.or_eq_true, anyB_iff p m (i + 1)]
    constructor
    · rintro (h | ⟨j, h1, h2, h3⟩)
      · exact ⟨i, by omega, by omega, h⟩
      · exact ⟨j, by omega, by omega, h3⟩
    · rintro ⟨j, h1, h2, h3⟩
      by_cases e : j = i
      · exact .inl (e ▸ h3)
      · exact .inr ⟨j, by omega, by omega, h3⟩
/-- How many classes, after so many bytes. -/
def kc (v : Vector Int 256) : Nat → Int
  | 0 => 0
  | b + 1 => max (kc v b) (vget v (b : Int) + 1)
def kcl (v : Vector Int 256) : Int := kc v 256
def VB (v : Vector Int 256) : Prop := ∀ c : Int, 0 ≤ vget v c ∧ vget v c ≤ 255
theorem kc_rng {v : Vector Int 256} (h : VB v) : ∀ b : Nat, 0 ≤ kc v b ∧ kc v b ≤ 256
  | 0 => by simp [kc]
  | b + 1 => by
    have := kc_rng h b
    have := h (b : Int)
    rw [kc]; omega
theorem kc_lt {v : Vector Int 256} : ∀ (m b : Nat), b < m → vget v (b : Int) < kc v m
  | 0, b, h => by omega
  | m + 1, b, h => by
    rw [kc]
    by_cases e : b = m
    · subst e; omega
    · have := kc_lt (v := v) m b (by omega); omega
theorem kcl_lt {v : Vector Int 256} {b : Nat} (h : b < 256) : vget v (b : Int) < kcl v := kc_lt 256 b h
theorem w64s {x : Int} (h0 : -1000000000000 ≤ x) (h1 : x ≤ 1000000000000) : w64 x = x := w64_id (by omega) (by omega)
theorem classes_l {d : S55} (h : VB d.f0) : ∀ (m b fuel : Nat), b + m = 256 → m < fuel → F57_l1 5000 d fuel (kc d.f0 b) (b : Int) = some (kcl d.f0)
  | 0, b, f + 1, hb, _ => by
    rw [F57_l1.eq_2, if_neg (by omega), F57_c0, show b = 256 by omega]; rfl
  | m + 1, b, f + 1, hb, hf => by
    have h0 := h (b : Int)
    have ih := classes_l h m (b + 1) f (by omega) (by omega)
    rw [F57_l1.eq_2, if_pos (by omega), if_pos ⟨by omega, by omega⟩, w64s (x := vget d.f0 (b : Int)) (by omega) (by omega), w64s (by omega) (by omega), w64s (by omega) (by omega)]
    rw [kc] at ih
    exact_mod_cast ih
theorem classes_eq {d : S55} (h : VB d.f0) : F57 5000 d = some (kcl d.f0) := classes_l h 256 0 5000 (by omega) (by omega)
/-! Has each class a byte? -/
def hasB (v : Vector Int 256) (c : Nat) : Bool := anyB' (fun b => decide (vget v (b : Int) = (c : Int))) 256 0
def gapB (v : Vector Int 256) : Bool := allB (hasB v) (kcl v).toNat 0
theorem hasB_iff (v : Vector Int 256) (c : Nat) : hasB v c = true ↔ ∃ b : Nat, b < 256 ∧ vget v (b : Int) = c := by
  unfold hasB
  rw [anyB_iff]
  constructor
  · rintro ⟨b, _, h2, h3⟩; exact ⟨b, by omega, of_decide_eq_true h3⟩
  · rintro ⟨b, h1, h2⟩; exact ⟨b, by omega, by omega, decide_eq_true h2⟩
theorem rgap_l3 {d : S55} (h : VB d.f0) (rec4 : Int → Option Bool) (c : Nat) : ∀ (m b fuel : Nat) (acc : Bool), b + m = 256 → m < fuel →
    F56_l3 5000 rec4 d (c : Int) fuel acc (b : Int) = F56_c2 5000 rec4 (c : Int) (acc || anyB' (fun b => decide (vget d.f0 (b : Int) = (c : Int))) m b)
  | 0, b, f + 1, acc, hb, _ => by
    rw [F56_l3.eq_2, if_neg (by omega), anyB', Bool.or_false]
  | m + 1, b, f + 1, acc, hb, hf => by
    have h0 := h (b : Int)
    have ih := fun acc => rgap_l3 h rec4 c m (b + 1) f acc (by omega) (by omega)
    have g : 0 ≤ (b : Int) ∧ (b : Int) < 256 := ⟨by omega, by omega⟩
    rw [F56_l3.eq_2, if_pos (by omega), w64s (x := vget d.f0 (b : Int)) (by omega) (by omega), if_pos g]
    have key : (if acc = true then some true else some (decide (vget d.f0 (b : Int) = (c : Int)))) = some (acc || decide (vget d.f0 (b : Int) = (c : Int))) := by cases acc <;> simp
    rw [key, Option.bind_some, w64s (by omega) (by omega), show (b : Int) + 1 = ((b + 1 : Nat) : Int) by omega, ih, anyB', Bool.or_assoc]
theorem rgap_l4 {d : S55} (h : VB d.f0) : ∀ (m c fuel : Nat), (c : Int) + m = kcl d.f0 → m < fuel → F56_l4 5000 d fuel (c : Int) = some (allB (hasB d.f0) m c)
  | 0, c, f + 1, hc, _ => by
    rw [F56_l4.eq_2, classes_eq h, Option.bind_some, if_neg (by omega), F56_c0]; rfl
  | m + 1, c, f + 1, hc, hf => by
    have h1 := kc_rng h 256
    have h2 : kcl d.f0 = kc d.f0 256 := rfl
    have ih := rgap_l4 h m (c + 1) f (by omega) (by omega)
    have e := rgap_l3 h (F56_l4 5000 d f) c 256 0 5000 false (by omega) (by omega)
    rw [Int.natCast_zero] at e
    rw [F56_l4.eq_2, classes_eq h, Option.bind_some, if_pos (by omega), e, Bool.false_or, F56_c2, allB]
    show (if (!hasB d.f0 c) = true then some false else _) = _
    cases hasB d.f0 c with
    | false => rfl
    | true =>
      rw [if_neg (by decide), F56_c1, w64s (by omega) (by omega), Bool.true_and]
      exact_mod_cast ih
theorem rgap_eq {d : S55} (h : VB d.f0) : F56 5000 d = some (gapB d.f0) := by
  have h1 := kc_rng h 256
  have h2 : kcl d.f0 = kc d.f0 256 := rfl
  exact rgap_l4 h (kcl d.f0).toNat 0 5000 (by omega) (by omega)
theorem lget_lsetB (l : List Bool) (i q : Int) (b : Bool) (h0 : 0 ≤ i) (h1 : i < (l.length : Int)) (hq : 0 ≤ q) : lget (lset l i b) q = if q = i then b else lget l q := by
  unfold lget lset
  rw [List.getD, List.getD, List.getElem?_set]
  by_cases e : i.toNat = q.toNat
  · rw [if_pos e, if_pos (by omega), if_pos (by omega)]; rfl
  · rw [if_neg e, if_neg (by omega)]
theorem lget_repB (N : Nat) (q : Int) : lget (List.replicate N false) q = false := by
  unfold lget
  rw [List.getD, List.getElem?_replicate]
  split <;> rfl
/-! Rows. -/
def entB (d : S55) (r : List Int) (c : Nat) : Bool := decide (-1 ≤ lget r (c : Int) ∧ lget r (c : Int) < (d.f1.length : Int))
def rowB (d : S55) (i : Nat) : Bool := decide (((lget d.f1 (i : Int)).length : Int) = kcl d.f0 ∧ -1 ≤ lget d.f2 (i : Int) ∧ lget d.f2 (i : Int) < 32768) && allB (entB d (lget d.f1 (i : Int))) (lget d.f1 (i : Int)).length 0
def rgB (d : S55) : Bool := decide (1 ≤ d.f1.length ∧ d.f2.length = d.f1.length) && gapB d.f0 && allB (rowB d) d.f1.length 0
theorem rright_l2 {d : S55} (rec11 : Int → Option Bool) (i : Nat) (hi : i < d.f1.length) (hl : (lget d.f1 (i : Int)).length ≤ 256) (hn : d.f1.length ≤ 1000) : ∀ (m c fuel : Nat), c + m = (lget d.f1 (i : Int)).length → m < fuel →
    F28_l2 5000 rec11 d (i : Int) fuel (c : Int) = if allB (entB d (lget d.f1 (i : Int))) m c = true then F28_c1 5000 rec11 (i : Int) else some false
  | 0, c, f + 1, hc, _ => by
    rw [F28_l2.eq_2, if_pos ⟨by omega, by omega⟩, if_neg (by omega), allB, if_pos rfl]
  | m + 1, c, f + 1, hc, hf => by
    have ih := rright_l2 rec11 i hi hl hn m (c + 1) f (by omega) (by omega)
    have g : 0 ≤ (i : Int) ∧ (i : Int) < (d.f1.length : Int) := ⟨by omega, by omega⟩
    have g2 : 0 ≤ (c : Int) ∧ (c : Int) < ((lget d.f1 (i : Int)).length : Int) := ⟨by omega, by omega⟩
    rw [F28_l2.eq_2, if_pos g, if_pos g2.2, if_pos g, if_pos g2, if_pos g, if_pos g2]
    have key : (if lget (lget d.f1 (i : Int)) (c : Int) < (-1 : Int) then some true else some (decide ((d.f1.length : Int) ≤ lget (lget d.f1 (i : Int)) (c : Int)))) = some (!entB d (lget d.f1 (i : Int)) c) := by
      unfold entB
      by_cases a : lget (lget d.f1 (i : Int)) (c : Int) < (-1 : Int)
      · rw [if_pos a, decide_eq_false (by omega)]; rfl
      · rw [if_neg a]
        by_cases b : (d.f1.length : Int) ≤ lget (lget d.f1 (i : Int)) (c : Int)
        · rw [decide_eq_true b, decide_eq_false (by omega)]; rfl
        · rw [decide_eq_false b, decide_eq_true (by omega)]; rfl
    rw [key, Option.bind_some, w64s (by omega) (by omega), allB]
    cases entB d (lget d.f1 (i : Int)) c with
    | false => rfl
    | true => rw [if_neg (by decide), Bool.true_and]; exact_mod_cast ih
theorem row_key {d : S55} (i : Nat) (hi : i < d.f1.length) (h2 : d.f2.length = d.f1.length) : (if ((lget d.f1 (i : Int)).length : Int) ≠ kcl d.f0 then some true else if 0 ≤ (i : Int) ∧ (i : Int) < (d.f2.length : Int) then if lget d.f2 (i : Int) < (-1 : Int) then some true else if 0 ≤ (i : Int) ∧ (i : Int) < (d.f2.length : Int) then some (decide ((32768 : Int) ≤ lget d.f2 (i : Int))) else none else none) =
    some (!decide (((lget d.f1 (i : Int)).length : Int) = kcl d.f0 ∧ -1 ≤ lget d.f2 (i : Int) ∧ lget d.f2 (i : Int) < 32768)) := by
  have g : 0 ≤ (i : Int) ∧ (i : Int) < (d.f2.length : Int) := ⟨by omega, by omega⟩
  rw [if_pos g, if_pos g]
  by_cases a : ((lget d.f1 (i : Int)).length : Int) = kcl d.f0
  · rw [if_neg (by simpa using a)]
    by_cases b : lget d.f2 (i : Int) < (-1 : Int)
    · rw [if_pos b, decide_eq_false (by omega)]; rfl
    · rw [if_neg b]
      by_cases c : (32768 : Int) ≤ lget d.f2 (i : Int)
      · rw [decide_eq_true c, decide_eq_false (by omega)]; rfl
      · rw [decide_eq_false c, decide_eq_true ⟨a, by omega, by omega⟩]; rfl
  · rw [if_pos a, decide_eq_false (fun q => a q.1)]; rfl
theorem rright_l3 {d : S55} (hv : VB d.f0) (h2 : d.f2.length = d.f1.length) (hl : ∀ r ∈ d.f1, r.length ≤ 256) (hn : d.f1.length ≤ 1000) : ∀ (m i fuel : Nat), i + m = d.f1.length → m < fuel →
    F28_l3 5000 d fuel (i : Int) = some (allB (rowB d) m i)
  | 0, i, f + 1, hi, _ => by
    rw [F28_l3.eq_2, if_neg (by omega)]; rfl
  | m + 1, i, f + 1, hi, hf => by
    have hi' : i < d.f1.length := by omega
    have hr : (lget d.f1 (i : Int)).length ≤ 256 := by rw [lget_lt _ i hi']; exact hl _ (List.getElem_mem hi')
    have ih := rright_l3 hv h2 hl hn m (i + 1) f (by omega) (by omega)
    have e := rright_l2 (F28_l3 5000 d f) i hi' hr hn (lget d.f1 (i : Int)).length 0 5000 (by omega) (by omega)
    rw [Int.natCast_zero] at e
    rw [F28_l3.eq_2, if_pos (by omega), if_pos ⟨by omega, by omega⟩, classes_eq hv, Option.bind_some, row_key i hi' h2, Option.bind_some, e, allB, rowB]
    cases decide (((lget d.f1 (i : Int)).length : Int) = kcl d.f0 ∧ -1 ≤ lget d.f2 (i : Int) ∧ lget d.f2 (i : Int) < 32768) with
    | false => rfl
    | true =>
      rw [if_neg (by decide), Bool.true_and]
      cases allB (entB d (lget d.f1 (i : Int))) (lget d.f1 (i : Int)).length 0 with
      | false => rfl
      | true => rw [if_pos rfl, F28_c1, w64s (by omega) (by omega), Bool.true_and]; exact_mod_cast ih
theorem rdright_eq {d : S55} (hv : VB d.f0) (hl : ∀ r ∈ d.f1, r.length ≤ 256) (hn : d.f1.length ≤ 1000) : F28 5000 d = some (rgB d) := by
  unfold F28 rgB
  by_cases a : (d.f1.length : Int) < 1
  · rw [if_pos a, Option.bind_some, if_pos rfl, decide_eq_false (by omega)]; rfl
  rw [if_neg a, if_neg (by omega)]
  by_cases b : (d.f2.length : Int) = (d.f1.length : Int)
  · rw [if_neg (by simpa using b), rgap_eq hv, Option.bind_some, Option.bind_some, decide_eq_true ⟨by omega, by omega⟩]
    cases gapB d.f0 with
    | false => rfl
    | true =>
      rw [if_neg (by decide)]
      have := rright_l3 hv (by omega) hl hn d.f1.length 0 5000 (by omega) (by omega)
      simpa using this
  · rw [if_pos b, Option.bind_some, if_pos rfl, decide_eq_false (by omega)]; rfl
/-- A machine that may be, not too large. -/
structure Dr (d : S55) : Prop where
  n1 : 1 ≤ d.f1.length
  n2 : d.f1.length ≤ 1000
  ml : d.f2.length = d.f1.length
  vb : VB d.f0
  gap : ∀ c : Nat, (c : Int) < kcl d.f0 → ∃ b : Nat, b < 256 ∧ vget d.f0 (b : Int) = c
  row : ∀ r ∈ d.f1, (r.length : Int) = kcl d.f0
  ent : ∀ r ∈ d.f1, ∀ x ∈ r, -1 ≤ x ∧ x < (d.f1.length : Int)
  mark : ∀ m ∈ d.f2, -1 ≤ m ∧ m < 32768
theorem lget_mem {α : Type} [Inhabited α] {l : List α} {x : α} (h : x ∈ l) : ∃ j : Nat, j < l.length ∧ lget l (j : Int) = x := by
  obtain ⟨j, hj, rfl⟩ := List.getElem_of_mem h
  exact ⟨j, hj, lget_lt l j hj⟩
theorem mem_lget {α : Type} [Inhabited α] {l : List α} {i : Int} (h0 : 0 ≤ i) (h1 : i < (l.length : Int)) : lget l i ∈ l := by
  have : lget l i = l[i.toNat]'(by omega) := by
    have := lget_lt l i.toNat (by omega)
    rwa [Int.toNat_of_nonneg h0] at this
  rw [this]; exact List.getElem_mem _
theorem rgB_iff {d : S55} (hv : VB d.f0) (hn : d.f1.length ≤ 1000) : rgB d = true ↔ Dr d := by
  have hk := kc_rng hv 256
  have hk2 : kcl d.f0 = kc d.f0 256 := rfl
  simp only [rgB, Bool.and_eq_true, decide_eq_true_eq, gapB, allB_iff, rowB, entB]
  constructor
  · rintro ⟨⟨⟨h1, h2⟩, h3⟩, h4⟩
    refine ⟨h1, hn, h2, hv, fun c hc => (hasB_iff _ c).1 (h3 c (by omega) (by omega)), fun r hr => ?_, fun r hr x hx => ?_, fun m hm => ?_⟩
    · obtain ⟨j, hj, rfl⟩ := lget_mem hr
      exact (h4 j (by omega) (by omega)).1.1
    · obtain ⟨j, hj, rfl⟩ := lget_mem hr
      obtain ⟨c, hc, rfl⟩ := lget_mem hx
      exact (h4 j (by omega) (by omega)).2 c (by omega) (by omega)
    · obtain ⟨j, hj, rfl⟩ := lget_mem hm
      exact (h4 j (by omega) (by omega)).1.2
  · intro h
    refine ⟨⟨⟨h.n1, h.ml⟩, fun j _ hj => (hasB_iff _ j).2 (h.gap j (by omega))⟩, fun j _ hj => ?_⟩
    have hr : lget d.f1 (j : Int) ∈ d.f1 := mem_lget (by omega) (by omega)
    have hm := h.ml
    exact ⟨⟨h.row _ hr, h.mark _ (mem_lget (by omega) (by omega))⟩, fun c _ hc => h.ent _ hr _ (mem_lget (by omega) (by omega))⟩
theorem Dr.rg {d : S55} (h : Dr d) : rgB d = true := (rgB_iff h.vb h.n2).2 h
theorem Dr.row256 {d : S55} (h : Dr d) : ∀ r ∈ d.f1, r.length ≤ 256 := fun r hr => by
  have h1 := kc_rng h.vb 256
  have h2 : kcl d.f0 = kc d.f0 256 := rfl
  have := h.row r hr
  omega
theorem Dr.rright {d : S55} (h : Dr d) : F28 5000 d = some true := by rw [rdright_eq h.vb h.row256 h.n2, h.rg]
theorem Dr.rowk {d : S55} (h : Dr d) {i : Int} (h0 : 0 ≤ i) (h1 : i < (d.f1.length : Int)) : ((lget d.f1 i).length : Int) = kcl d.f0 := h.row _ (mem_lget h0 h1)
theorem Dr.entk {d : S55} (h : Dr d) {i c : Int} (h0 : 0 ≤ i) (h1 : i < (d.f1.length : Int)) (c0 : 0 ≤ c) (c1 : c < ((lget d.f1 i).length : Int)) : -1 ≤ lget (lget d.f1 i) c ∧ lget (lget d.f1 i) c < (d.f1.length : Int) := h.ent _ (mem_lget h0 h1) _ (mem_lget c0 c1)
end Go.Avl.T7
/- Machines in one state: which states are reached, from which a mark is reached. -/
namespace Go.Avl.T7
open Go Go.RowKit Go.Proofs Go.Avl
set_option linter.all false
set_option maxRecDepth 10000

abbrev rw' (d : S55) (p : Int) : List Int := lget d.f1 p
/-- Reached from a state. -/
inductive DR (d : S55) (s : Int) : Int → Prop
  | refl : DR d s s
  | step {p : Int} {c : Nat} : DR d s p → (c : Int) < ((rw' d p).length : Int) → 0 ≤ lget (rw' d p) (c : Int) → DR d s (lget (rw' d p) (c : Int))
theorem DR.in {d : S55} (h : Dr d) {s q : Int} (hs : 0 ≤ s ∧ s < (d.f1.length : Int)) (k : DR d s q) : 0 ≤ q ∧ q < (d.f1.length : Int) := by
  induction k with
  | refl => exact hs
  | step _ hc h0 ih => exact ⟨h0, (h.entk ih.1 ih.2 (by omega) hc).2⟩
theorem DR.trans {d : S55} {s p q : Int} (h : DR d s p) (k : DR d p q) : DR d s q := by
  induction k with
  | refl => exact h
  | step _ hc h0 ih => exact .step ih hc h0
theorem lext {x y : List Bool} (hl : x.length = y.length) (h : ∀ q : Int, 0 ≤ q → q < (x.length : Int) → (lget x q = true ↔ lget y q = true)) : x = y := by
  apply List.ext_getElem hl
  intro j h1 h2
  have := h (j : Int) (by omega) (by omega)
  rw [lget_lt x j h1, lget_lt y j h2] at this
  rw [Bool.eq_iff_iff]; exact this
/-- One row within another one. -/
def LE (x y : List Bool) : Prop := ∀ q : Int, 0 ≤ q → lget x q = true → lget y q = true
theorem LE.refl (x : List Bool) : LE x x := fun _ _ h => h
theorem LE.trans {x y z : List Bool} (h : LE x y) (k : LE y z) : LE x z := fun q h0 h1 => k q h0 (h q h0 h1)
theorem LE.set {x : List Bool} {i : Int} (h0 : 0 ≤ i) (h1 : i < (x.length : Int)) : LE x (lset x i true) := fun q hq h => by
  rw [lget_lsetB x i q true h0 h1 hq]
  split
  · rfl
  · exact h
/-! The program's walk: an open list. -/
def ps1 (s : List Bool × List Int) (q : Int) : List Bool × List Int := if 0 ≤ q ∧ lget s.1 q = false then (lset s.1 q true, s.2 ++ [q]) else s
def ps (l : List Int) (s : List Bool × List Int) : List Bool × List Int := l.foldl ps1 s
theorem ps_len : ∀ (l : List Int) (s : List Bool × List Int), (ps l s).1.length = s.1.length
  | [], _ => rfl
  | q :: l, s => by
    show (ps l (ps1 s q)).1.length = _
    rw [ps_len l]
    unfold ps1; split
    · exact lset_len _ _ _
    · rfl
theorem ps_cnt {N : Int} : ∀ (l : List Int) (s : List Bool × List Int), (∀ q ∈ l, q < N) → (s.1.length : Int) = N → cnt (ps l s).1 + s.2.length = cnt s.1 + (ps l s).2.length
  | [], _, _, _ => rfl
  | q :: l, s, h, hs => by
    have hq := h q (by simp)
    have hl : (ps1 s q).1.length = s.1.length := by
      unfold ps1; split
      · exact lset_len _ _ _
      · rfl
    have ih := ps_cnt l (ps1 s q) (fun q hq => h q (by simp [hq])) (by rw [hl]; exact hs)
    show cnt (ps l (ps1 s q)).1 + s.2.length = cnt s.1 + (ps l (ps1 s q)).2.length
    have : cnt (ps1 s q).1 + s.2.length = cnt s.1 + (ps1 s q).2.length := by
      unfold ps1
      split
      · rename_i c
        have : cnt (lset s.1 q true) = cnt s.1 + 1 := by
          have hi : q.toNat < s.1.length := by omega
          refine cnt_set s.1 q.toNat hi ?_
          have e := c.2
          unfold lget at e
          rw [List.getD, List.getElem?_eq_getElem hi] at e
          rw [List.getElem?_eq_getElem hi]; simpa using e
        simp only [List.length_append, List.length_singleton]
        omega
      · rfl
    omega
theorem ps_iff {N : Int} {q : Int} (hq : 0 ≤ q) : ∀ (l : List Int) (s : List Bool × List Int), (∀ q ∈ l, q < N) → (s.1.length : Int) = N → (lget (ps l s).1 q = true ↔ lget s.1 q = true ∨ q ∈ l)
  | [], s, _, _ => by simp [ps]
  | p :: l, s, h, hs => by
    have hp := h p (by simp)
    have hl : (ps1 s p).1.length = s.1.length := by
      unfold ps1; split
      · exact lset_len _ _ _
      · rfl
    have ih := ps_iff hq l (ps1 s p) (fun q hq => h q (by simp [hq])) (by rw [hl]; exact hs)
    show lget (ps l (ps1 s p)).1 q = true ↔ _
    rw [ih]
    have : lget (ps1 s p).1 q = true ↔ lget s.1 q = true ∨ q = p := by
      unfold ps1
      split
      · rename_i c
        show lget (lset s.1 p true) q = true ↔ _
        rw [lget_lsetB s.1 p q true c.1 (by omega) hq]
        by_cases e : q = p
        · simp [e]
        · rw [if_neg e]; simp [e]
      · rename_i c
        constructor
        · exact .inl
        · rintro (e | rfl)
          · exact e
          · cases w : lget s.1 q with
            | true => rfl
            | false => exact absurd ⟨hq, w⟩ c
    rw [this]; simp [or_assoc]
theorem ps_open : ∀ (l : List Int) (s : List Bool × List Int), (∀ q ∈ (ps l s).2, q ∈ s.2 ∨ (q ∈ l ∧ 0 ≤ q)) ∧ (∀ q ∈ s.2, q ∈ (ps l s).2)
  | [], s => ⟨fun q h => .inl h, fun q h => h⟩
  | p :: l, s => by
    obtain ⟨i1, i2⟩ := ps_open l (ps1 s p)
    show (∀ q ∈ (ps l (ps1 s p)).2, _) ∧ (∀ q ∈ s.2, q ∈ (ps l (ps1 s p)).2)
    have k1 : ∀ q ∈ (ps1 s p).2, q ∈ s.2 ∨ (q = p ∧ 0 ≤ p) := by
      intro q hq
      unfold ps1 at hq
      split at hq
      · rename_i c
        rcases List.mem_append.1 hq with hq | hq
        · exact .inl hq
        · exact .inr ⟨by simpa using hq, c.1⟩
      · exact .inl hq
    have k2 : ∀ q ∈ s.2, q ∈ (ps1 s p).2 := by
      intro q hq
      unfold ps1
      split
      · simp [hq]
      · exact hq
    refine ⟨fun q hq => ?_, fun q hq => i2 q (k2 q hq)⟩
    rcases i1 q hq with h | h
    · rcases k1 q h with h | ⟨rfl, h⟩
      · exact .inl h
      · exact .inr ⟨by simp, h⟩
    · exact .inr ⟨by simp [h.1], h.2⟩
theorem ps_new {N : Int} {q : Int} (hq : 0 ≤ q) : ∀ (l : List Int) (s : List Bool × List Int), (∀ q ∈ l, q < N) → (s.1.length : Int) = N → lget (ps l s).1 q = true → lget s.1 q = true ∨ q ∈ (ps l s).2
  | [], s, _, _, h => .inl h
  | p :: l, s, h, hs, hg => by
    have hp := h p (by simp)
    have hl : (ps1 s p).1.length = s.1.length := by
      unfold ps1; split
      · exact lset_len _ _ _
      · rfl
    rcases ps_new hq l (ps1 s p) (fun q hq => h q (by simp [hq])) (by rw [hl]; exact hs) hg with k | k
    · unfold ps1 at k
      split at k
      · rename_i c
        simp only [] at k
        rw [lget_lsetB s.1 p q true c.1 (by omega) hq] at k
        by_cases e : q = p
        · right
          show q ∈ (ps l (ps1 s p)).2
          refine (ps_open l (ps1 s p)).2 q ?_
          unfold ps1; rw [if_pos c, e]; simp
        · rw [if_neg e] at k; exact .inl k
      · exact .inl k
    · exact .inr k
theorem reach_l2 {d : S55} (h : Dr d) (rec16 : List Bool → List Int → Option (List Bool)) (o : List Int) (p : Int) (hp : lget o 0 = p) (h0 : 0 ≤ p ∧ p < (d.f1.length : Int)) : ∀ (m c fuel : Nat) (x : List Bool) (o2 : List Int), c + m = (rw' d p).length → m < fuel → x.length = d.f1.length → o2.length + m ≤ 100000000 →
    F58_l2 5000 rec16 d o fuel x o2 (c : Int) = rec16 (ps ((rw' d p).drop c) (x, o2)).1 (ps ((rw' d p).drop c) (x, o2)).2
  | 0, c, f + 1, x, o2, hc, _, hx, ho => by
    rw [F58_l2.eq_2, hp, if_neg (by show ¬ (c : Int) < ((rw' d p).length : Int); omega), List.drop_of_length_le (by omega)]; rfl
  | m + 1, c, f + 1, x, o2, hc, hf, hx, ho => by
    have hc' : c < (rw' d p).length := by omega
    have he := h.entk h0.1 h0.2 (c := (c : Int)) (by omega) (by show (c : Int) < ((rw' d p).length : Int); omega)
    have h256 : (rw' d p).length ≤ 256 := h.row256 _ (mem_lget h0.1 h0.2)
    have hn := h.n2
    have ge : lget (rw' d p) (c : Int) = (rw' d p)[c] := lget_lt _ c hc'
    rw [F58_l2.eq_2, hp, if_pos (by show (c : Int) < ((rw' d p).length : Int); omega), if_pos ⟨by omega, by show (c : Int) < ((rw' d p).length : Int); omega⟩]
    show (Option.bind (α := Bool) _ _) = _
    rw [List.drop_eq_getElem_cons hc']
    show _ = rec16 (ps ((rw' d p).drop (c + 1)) (ps1 (x, o2) (rw' d p)[c])).1 (ps ((rw' d p).drop (c + 1)) (ps1 (x, o2) (rw' d p)[c])).2
    rw [← ge]
    generalize lget (rw' d p) (c : Int) = q at he
    unfold ps1
    by_cases a : 0 ≤ q
    · have g : 0 ≤ q ∧ q < (x.length : Int) := ⟨a, by omega⟩
      rw [if_pos a, if_pos g.2, if_pos g, Option.bind_some]
      cases w : lget x q with
      | false =>
        rw [if_pos (by decide), if_pos g, if_pos (by simp; omega), if_pos ⟨a, rfl⟩, F58_c1, w64s (by omega) (by omega)]
        have ih := reach_l2 h rec16 o p hp h0 m (c + 1) f (lset x q true) (o2 ++ [q]) (by omega) (by omega) (by rw [lset_len]; exact hx) (by simp; omega)
        exact_mod_cast ih
      | true =>
        rw [if_neg (by decide), if_neg (by simp), F58_c1, w64s (by omega) (by omega)]
        have ih := reach_l2 h rec16 o p hp h0 m (c + 1) f x o2 (by omega) (by omega) hx (by omega)
        exact_mod_cast ih
    · rw [if_neg a, Option.bind_some, if_neg (by decide), if_neg (fun e => a e.1), F58_c1, w64s (by omega) (by omega)]
      have ih := reach_l2 h rec16 o p hp h0 m (c + 1) f x o2 (by omega) (by omega) hx (by omega)
      exact_mod_cast ih
theorem cnt_le_len {x : List Bool} {n : Nat} (h : x.length = n) : cnt x ≤ n := h ▸ cnt_le x
/-- So far: what is marked is reached, and what it leads to is marked, or it is still open. -/
structure RI (d : S55) (s : Int) (x : List Bool) (o : List Int) : Prop where
  len : x.length = d.f1.length
  op : ∀ q ∈ o, 0 ≤ q ∧ q < (d.f1.length : Int) ∧ lget x q = true
  snd : ∀ q, 0 ≤ q → lget x q = true → DR d s q
  cls : ∀ p, 0 ≤ p → p < (d.f1.length : Int) → lget x p = true → p ∈ o ∨ ∀ c : Nat, (c : Int) < ((rw' d p).length : Int) → 0 ≤ lget (rw' d p) (c : Int) → lget x (lget (rw' d p) (c : Int)) = true
  fst : lget x s = true
theorem reach_l3 {d : S55} (h : Dr d) {s : Int} (hs : 0 ≤ s ∧ s < (d.f1.length : Int)) : ∀ (m : Nat) (x : List Bool) (o : List Int), RI d s x o → (d.f1.length - cnt x) + o.length < m → o.length ≤ 100000 + cnt x →
    ∃ R, F58_l3 5000 d m x o = some R ∧ R.length = d.f1.length ∧ ∀ q, 0 ≤ q → (lget R q = true ↔ DR d s q)
  | m + 1, x, o, hI, hm, ho => by
    have hn := h.n2
    have hcx := cnt_le_len hI.len
    rw [F58_l3.eq_2]
    cases o with
    | nil =>
      rw [if_neg (by simp), F58_c0]
      refine ⟨x, rfl, hI.len, fun q hq => ⟨hI.snd q hq, fun k => ?_⟩⟩
      induction k with
      | refl => exact hI.fst
      | @step p c k hc h0 ih =>
        have hp := k.in h hs
        rcases hI.cls p hp.1 hp.2 (ih hp.1) with q | q
        · cases q
        · exact q c hc h0
    | cons p o =>
      have hp := hI.op p (by simp)
      have hrow : (rw' d p).length ≤ 256 := h.row256 _ (mem_lget hp.1 hp.2.1)
      have hlt : ∀ q ∈ rw' d p, q < (d.f1.length : Int) := fun q hq => (h.ent _ (mem_lget hp.1 hp.2.1) q hq).2
      have hp0 : lget (p :: o) (0 : Int) = p := rfl
      have hlen : (x.length : Int) = (d.f1.length : Int) := by rw [hI.len]
      rw [if_pos (by simp), if_pos ⟨by omega, by simp⟩, if_pos ⟨by omega, by simp; omega⟩, hp0, if_pos ⟨hp.1, hp.2.1⟩]
      have e := reach_l2 h (F58_l3 5000 d m) (p :: o) p hp0 ⟨hp.1, hp.2.1⟩ (rw' d p).length 0 5000 x o (by omega) (by omega) hI.len (by simp at ho; omega)
      rw [Int.natCast_zero, List.drop_zero] at e
      show ∃ R, F58_l2 5000 (F58_l3 5000 d m) d (p :: o) 5000 x o 0 = some R ∧ _
      rw [e]
      have hl := ps_len (rw' d p) (x, o)
      have hc := ps_cnt (N := (d.f1.length : Int)) (rw' d p) (x, o) hlt hlen
      have hiff := fun {q} (hq : 0 ≤ q) => ps_iff (N := (d.f1.length : Int)) hq (rw' d p) (x, o) hlt hlen
      have hop := ps_open (rw' d p) (x, o)
      have hnew := fun {q} (hq : 0 ≤ q) => ps_new (N := (d.f1.length : Int)) hq (rw' d p) (x, o) hlt hlen
      generalize ps (rw' d p) (x, o) = s2 at hl hc hiff hop hnew
      obtain ⟨x2, o2⟩ := s2
      simp only [] at hl hc hiff hop hnew
      have hc2 := cnt_le_len (x := x2) (n := d.f1.length) (by rw [hl]; exact hI.len)
      have dstep : ∀ q ∈ rw' d p, 0 ≤ q → DR d s q := by
        intro q hq h0
        obtain ⟨c, hc, rfl⟩ := lget_mem hq
        exact .step (hI.snd p hp.1 hp.2.2) (by omega) h0
      refine reach_l3 h hs m x2 o2 ⟨by rw [hl]; exact hI.len, fun q hq => ?_, fun q hq hg => ?_, fun r h0 h1 hg => ?_, ?_⟩ (by simp at hm; omega) (by simp at ho; omega)
      · rcases hop.1 q hq with k | ⟨k1, k2⟩
        · have := hI.op q (by simp [k])
          exact ⟨this.1, this.2.1, (hiff this.1).2 (.inl this.2.2)⟩
        · exact ⟨k2, hlt q k1, (hiff k2).2 (.inr k1)⟩
      · rcases (hiff hq).1 hg with k | k
        · exact hI.snd q hq k
        · exact dstep q k hq
      · by_cases e : r = p
        · subst e
          exact .inr fun c hc h0 => (hiff h0).2 (.inr (mem_lget (by omega) hc))
        · rcases hnew h0 hg with k | k
          · rcases hI.cls r h0 h1 k with k | k
            · rcases List.mem_cons.1 k with k | k
              · exact absurd k e
              · exact .inl (hop.2 r k)
            · exact .inr fun c hc h0 => (hiff h0).2 (.inl (k c hc h0))
          · exact .inl k
      · exact (hiff hs.1).2 (.inl hI.fst)
/-- The states that are reached from one. -/
def RS (d : S55) (s : Int) (R : List Bool) : Prop := R.length = d.f1.length ∧ ∀ q, 0 ≤ q → q < (d.f1.length : Int) → (lget R q = true ↔ (0 ≤ s ∧ s < (d.f1.length : Int)) ∧ DR d s q)
theorem RS.uniq {d : S55} {s : Int} {R R' : List Bool} (h : RS d s R) (h' : RS d s R') : R = R' :=
  lext (h.1.trans h'.1.symm) fun q h0 h1 => by rw [h.1] at h1; rw [h.2 q h0 h1, h'.2 q h0 h1]
theorem cnt_one {N : Nat} {s : Int} (hs : 0 ≤ s ∧ s < (N : Int)) : cnt (lset (List.replicate N false) s true) = 1 := by
  have hi : s.toNat < (List.replicate N false).length := by simp; omega
  have := cnt_set (List.replicate N false) s.toNat hi (by rw [List.getElem?_eq_getElem hi]; simp)
  have h0 : cnt (List.replicate N false) = 0 := by unfold cnt; simp [List.count_replicate]
  rw [h0] at this; exact this
theorem one_iff {N : Nat} {s : Int} (hs : 0 ≤ s ∧ s < (N : Int)) {q : Int} (hq : 0 ≤ q) : lget (lset (List.replicate N false) s true) q = true ↔ q = s := by
  rw [lget_lsetB _ _ _ true hs.1 (by simp; omega) hq]
  by_cases e : q = s
  · simp [e]
  · rw [if_neg e, lget_repB]; simp [e]
theorem reached_eq {d : S55} (h : Dr d) (s : Int) : ∃ R, F58 5000 d s = some R ∧ RS d s R := by
  have hn := h.n2
  unfold F58
  rw [if_pos ⟨by omega, by omega, by omega⟩, Int.toNat_natCast]
  by_cases a : s < 0
  · rw [if_pos a, Option.bind_some, if_pos rfl]
    exact ⟨_, rfl, by simp, fun q h0 h1 => by rw [lget_repB]; simp; omega⟩
  by_cases b : (d.f1.length : Int) ≤ s
  · rw [if_neg a, Option.bind_some, if_pos (by simpa using b)]
    exact ⟨_, rfl, by simp, fun q h0 h1 => by rw [lget_repB]; simp; omega⟩
  have hs : 0 ≤ s ∧ s < (d.f1.length : Int) := ⟨by omega, by omega⟩
  rw [if_neg a, Option.bind_some, if_neg (by simpa using b), if_pos ⟨by omega, by simp; omega⟩]
  obtain ⟨R, r1, r2, r3⟩ := reach_l3 h hs 5000 (lset (List.replicate d.f1.length false) s true) [s]
    ⟨by rw [lset_len, List.length_replicate], fun q hq => by
      have : q = s := by simpa using hq
      subst this
      exact ⟨hs.1, hs.2, (one_iff hs hs.1).2 rfl⟩, fun q hq hg => by rw [(one_iff hs hq).1 hg]; exact .refl, fun p h0 h1 hg => .inl (by rw [(one_iff hs h0).1 hg]; simp), (one_iff hs hs.1).2 rfl⟩ (by rw [cnt_one hs]; simp; omega) (by simp; omega)
  exact ⟨R, r1, r2, fun q h0 h1 => by rw [r3 q h0]; exact ⟨fun k => ⟨hs, k⟩, fun k => k.2⟩⟩
/-! The document's walk: rounds. -/
def sL (l : List Int) (x : List Bool) : List Bool := l.foldl (fun x q => if 0 ≤ q then lset x q true else x) x
def rp (d : S55) (i : Nat) (x : List Bool) : List Bool := if lget x (i : Int) = true then sL (rw' d i) x else x
end Go.Avl.T7
/- Texts by their lengths: where so many bytes lead. -/
namespace Go.Avl.T7
open Go Go.RowKit Go.Proofs Go.Avl
set_option linter.all false
set_option maxRecDepth 10000

/-- Reached by so many steps. -/
def SR (d : S55) (s : Int) : Nat → Int → Prop
  | 0, p => p = s
  | n + 1, p => ∃ q, SR d s n q ∧ p ∈ rw' d q ∧ 0 ≤ p
theorem SR.in {d : S55} (h : Dr d) {s : Int} (hs : 0 ≤ s ∧ s < (d.f1.length : Int)) : ∀ {n : Nat} {p : Int}, SR d s n p → 0 ≤ p ∧ p < (d.f1.length : Int)
  | 0, p, k => by rw [show p = s from k]; exact hs
  | n + 1, p, ⟨q, q1, q2, q3⟩ => by
    have hq := SR.in h hs q1
    exact ⟨q3, (h.ent _ (mem_lget hq.1 hq.2) p q2).2⟩
/-- The states at which one is, as truths. -/
def AtS (d : S55) (s : Int) (n : Nat) (x : List Bool) : Prop := x.length = d.f1.length ∧ ∀ p, 0 ≤ p → p < (d.f1.length : Int) → (lget x p = true ↔ SR d s n p)
def NxI (d : S55) (x : List Bool) (i c : Nat) (y : List Bool) : Prop := y.length = d.f1.length ∧ ∀ p, 0 ≤ p → p < (d.f1.length : Int) → (lget y p = true ↔ (∃ j : Nat, j < i ∧ lget x (j : Int) = true ∧ p ∈ rw' d (j : Int)) ∨ (lget x (i : Int) = true ∧ ∃ a : Nat, a < c ∧ a < (rw' d (i : Int)).length ∧ lget (rw' d (i : Int)) (a : Int) = p))
theorem w6' {x : Int} (h0 : -1000000000000 ≤ x) (h1 : x ≤ 1000000000000) : w64 x = x := w64_id (by omega) (by omega)
theorem can_l7 {d : S55} (h : Dr d) (rec35 : List Bool → Int → Option Bool) {x : List Bool} (hx : x.length = d.f1.length) (i : Nat) (hi : i < d.f1.length) (r : Option Bool) (hr : ∀ y, NxI d x i (rw' d (i : Int)).length y → rec35 y ((i + 1 : Nat) : Int) = r) : ∀ (m c fuel : Nat) (y : List Bool), c + m = (rw' d (i : Int)).length → m < fuel → NxI d x i c y →
    F59_l7 5000 rec35 d x (i : Int) fuel y (c : Int) = r
  | 0, c, fu + 1, y, hc, _, hy => by
    have hn := h.n2
    have gi : 0 ≤ (i : Int) ∧ (i : Int) < (x.length : Int) := ⟨by omega, by omega⟩
    have gd : 0 ≤ (i : Int) ∧ (i : Int) < (d.f1.length : Int) := ⟨by omega, by omega⟩
    have hc' : c = (lget d.f1 (i : Int)).length := hc
    have fin : F59_c5 5000 rec35 (i : Int) y = r := by
      unfold F59_c5
      rw [w6' (by omega) (by omega)]
      exact hr y (by rw [← show c = (rw' d (i : Int)).length from by omega]; exact hy)
    rw [F59_l7.eq_2, if_pos gi]
    by_cases b : lget x (i : Int) = true
    · rw [if_pos b, if_pos gd, Option.bind_some, decide_eq_false (by omega), if_neg (by decide)]; exact fin
    · rw [if_neg b, Option.bind_some, if_neg (by decide)]; exact fin
  | m + 1, c, fu + 1, y, hc, hf, hy => by
    have hn := h.n2
    have gi : 0 ≤ (i : Int) ∧ (i : Int) < (x.length : Int) := ⟨by omega, by omega⟩
    have gd : 0 ≤ (i : Int) ∧ (i : Int) < (d.f1.length : Int) := ⟨by omega, by omega⟩
    have hrow := h.row256 _ (mem_lget gd.1 gd.2)
    have hc' : c < (lget d.f1 (i : Int)).length := by have : (rw' d (i : Int)).length = (lget d.f1 (i : Int)).length := rfl; omega
    have gc : 0 ≤ (c : Int) ∧ (c : Int) < ((lget d.f1 (i : Int)).length : Int) := ⟨by omega, by omega⟩
    have ent := h.entk gd.1 gd.2 gc.1 gc.2
    rw [F59_l7.eq_2, if_pos gi]
    by_cases b : lget x (i : Int) = true
    · rw [if_pos b, if_pos gd, Option.bind_some, decide_eq_true gc.2, if_pos rfl, if_pos gd, if_pos gc]
      unfold F59_c6
      rw [w6' (x := (c : Int) + 1) (by omega) (by omega)]
      by_cases e : 0 ≤ lget (lget d.f1 (i : Int)) (c : Int)
      · have hy1 := hy.1
        rw [if_pos e, if_pos gd, if_pos gc, if_pos ⟨e, by omega⟩]
        have := can_l7 h rec35 hx i hi r hr m (c + 1) fu (lset y (lget (lget d.f1 (i : Int)) (c : Int)) true) (by omega) (by omega) ⟨by rw [lset_len]; exact hy1, fun p h0 h1 => by
          rw [lget_lsetB y _ p true e (by omega) h0]
          by_cases q : p = lget (lget d.f1 (i : Int)) (c : Int)
          · rw [if_pos q]
            exact ⟨fun _ => .inr ⟨b, c, by omega, hc', q.symm⟩, fun _ => rfl⟩
          · rw [if_neg q, hy.2 p h0 h1]
            constructor
            · rintro (k | ⟨k1, a, a1, a2, a3⟩)
              · exact .inl k
              · exact .inr ⟨k1, a, by omega, a2, a3⟩
            · rintro (k | ⟨k1, a, a1, a2, a3⟩)
              · exact .inl k
              · refine .inr ⟨k1, a, ?_, a2, a3⟩
                rcases Nat.lt_or_ge a c with u | u
                · exact u
                · have : a = c := by omega
                  subst this
                  exact absurd a3.symm q⟩
        exact_mod_cast this
      · rw [if_neg e]
        have := can_l7 h rec35 hx i hi r hr m (c + 1) fu y (by omega) (by omega) ⟨hy.1, fun p h0 h1 => by
          rw [hy.2 p h0 h1]
          constructor
          · rintro (k | ⟨k1, a, a1, a2, a3⟩)
            · exact .inl k
            · exact .inr ⟨k1, a, by omega, a2, a3⟩
          · rintro (k | ⟨k1, a, a1, a2, a3⟩)
            · exact .inl k
            · refine .inr ⟨k1, a, ?_, a2, a3⟩
              rcases Nat.lt_or_ge a c with u | u
              · exact u
              · have : a = c := by omega
                subst this
                have a3' : lget (lget d.f1 (i : Int)) (a : Int) = p := a3
                omega⟩
        exact_mod_cast this
    · rw [if_neg b, Option.bind_some, if_neg (by decide)]
      unfold F59_c5
      rw [w6' (by omega) (by omega)]
      refine hr y ⟨hy.1, fun p h0 h1 => ?_⟩
      rw [hy.2 p h0 h1]
      constructor
      · rintro (k | k)
        · exact .inl k
        · exact absurd k.1 b
      · rintro (k | k)
        · exact .inl k
        · exact absurd k.1 b
theorem can_l8 {d : S55} (h : Dr d) (rec25 : List Bool → Int → Option Bool) {x : List Bool} (hx : x.length = d.f1.length) (q : Int) (hq : -1000 ≤ q ∧ q ≤ 1000) (r : Option Bool) (hr : ∀ y, NxI d x d.f1.length 0 y → rec25 y (q + 1) = r) : ∀ (m i fuel : Nat) (y : List Bool), i + m = d.f1.length → m < fuel → NxI d x i 0 y →
    F59_l8 5000 rec25 d x q fuel y (i : Int) = r
  | 0, i, fu + 1, y, hi, _, hy => by
    rw [F59_l8.eq_2, if_neg (by omega)]
    unfold F59_c4 F59_c3
    rw [w6' (by omega) (by omega)]
    exact hr y (by rw [show d.f1.length = i by omega]; exact hy)
  | m + 1, i, fu + 1, y, hi, hf, hy => by
    have hn := h.n2
    have hrow := h.row256 _ (mem_lget (l := d.f1) (i := (i : Int)) (by omega) (by omega))
    rw [F59_l8.eq_2, if_pos (by omega)]
    refine can_l7 h _ hx i (by omega) r (fun z hz => ?_) (rw' d (i : Int)).length 0 5000 y (by omega) (by have : (rw' d (i : Int)).length = (lget d.f1 (i : Int)).length := rfl; omega) hy
    refine can_l8 h rec25 hx q hq r hr m (i + 1) fu z (by omega) (by omega) ⟨hz.1, fun p h0 h1 => ?_⟩
    rw [hz.2 p h0 h1]
    constructor
    · rintro (⟨j, j1, j2, j3⟩ | ⟨k1, a, a1, a2, a3⟩)
      · exact .inl ⟨j, by omega, j2, j3⟩
      · exact .inl ⟨i, by omega, k1, by rw [← a3]; exact mem_lget (by omega) (by omega)⟩
    · rintro (⟨j, j1, j2, j3⟩ | ⟨_, a, a1, _⟩)
      · rcases Nat.lt_or_ge j i with u | u
        · exact .inl ⟨j, u, j2, j3⟩
        · have : j = i := by omega
          subst this
          obtain ⟨a, a1, a2⟩ := lget_mem j3
          exact .inr ⟨j2, a, a1, a1, a2⟩
      · omega
theorem can_l9 {d : S55} (h : Dr d) {s : Int} (hs : 0 ≤ s ∧ s < (d.f1.length : Int)) (N : Nat) (hN : N ≤ 900) : ∀ (m n fuel : Nat) (x : List Bool), n + m = N → m < fuel → AtS d s n x → ∃ y, AtS d s N y ∧ F59_l9 5000 d (N : Int) fuel x (n : Int) = F59_c2 5000 d y
  | 0, n, fu + 1, x, hn, _, hx => by
    refine ⟨x, by rw [← show n = N by omega]; exact hx, ?_⟩
    rw [F59_l9.eq_2, if_neg (by omega)]
  | m + 1, n, fu + 1, x, hn, hf, hx => by
    have hd := h.n2
    have hx1 := hx.1
    -- one step on
    have ex : ∃ y, AtS d s (n + 1) y := by
      classical
      refine ⟨(List.range d.f1.length).map fun i : Nat => decide (SR d s (n + 1) (i : Int)), by simp, fun p h0 h1 => ?_⟩
      obtain ⟨j, rfl⟩ := Int.eq_ofNat_of_zero_le h0
      have : lget ((List.range d.f1.length).map fun i : Nat => decide (SR d s (n + 1) (i : Int))) (j : Int) = decide (SR d s (n + 1) (j : Int)) := by
        rw [lget_lt _ j (by simp; omega)]; simp
      rw [this]; simp
    obtain ⟨y0, hy0⟩ := ex
    obtain ⟨y, y1, y2⟩ := can_l9 h hs N hN m (n + 1) fu y0 (by omega) (by omega) hy0
    refine ⟨y, y1, ?_⟩
    rw [F59_l9.eq_2, if_pos (by omega), if_pos ⟨by omega, by omega, by omega⟩, Int.toNat_natCast]
    refine can_l8 h _ hx1 (n : Int) (by omega) _ (fun z hz => ?_) d.f1.length 0 5000 _ (by omega) (by omega) ⟨by simp [hx1], fun p h0 h1 => ?_⟩
    · have e : z = y0 := by
        refine lext (by rw [hz.1, hy0.1]) fun p h0 h1 => ?_
        rw [hz.1] at h1
        rw [hz.2 p h0 h1, hy0.2 p h0 h1]
        constructor
        · rintro (⟨j, j1, j2, j3⟩ | ⟨_, a, a1, _⟩)
          · exact ⟨(j : Int), (hx.2 _ (by omega) (by omega)).1 j2, j3, h0⟩
          · omega
        · rintro ⟨q, q1, q2, q3⟩
          have hq := SR.in h hs q1
          obtain ⟨j, rfl⟩ := Int.eq_ofNat_of_zero_le hq.1
          exact .inl ⟨j, by omega, (hx.2 _ hq.1 hq.2).2 q1, q2⟩
      rw [e]
      exact_mod_cast y2
    · rw [lget_repB]
      constructor
      · intro k; cases k
      · rintro (⟨j, j1, _⟩ | ⟨_, a, a1, _⟩) <;> omega
theorem can_l1 {d : S55} (h : Dr d) {x : List Bool} (hx : x.length = d.f1.length) : ∀ (m i fuel : Nat), i + m = d.f1.length → m < fuel → ∃ b, F59_l1 5000 d x fuel (i : Int) = some b ∧ (b = true ↔ ∃ j : Nat, i ≤ j ∧ j < d.f1.length ∧ lget x (j : Int) = true ∧ 0 ≤ lget d.f2 (j : Int))
  | 0, i, fu + 1, hi, _ => by
    refine ⟨false, by rw [F59_l1.eq_2, if_neg (by omega)]; rfl, ?_⟩
    constructor
    · intro k; cases k
    · rintro ⟨j, j1, j2, _⟩; omega
  | m + 1, i, fu + 1, hi, hf => by
    have hn := h.n2
    have hm := h.ml
    obtain ⟨b, b1, b2⟩ := can_l1 h hx m (i + 1) fu (by omega) (by omega)
    rw [F59_l1.eq_2, if_pos (by omega), if_pos ⟨by omega, by omega⟩, w6' (by omega) (by omega)]
    have hstep : ∀ {p : Prop}, (p ↔ (lget x (i : Int) = true ∧ 0 ≤ lget d.f2 (i : Int)) ∨ ∃ j : Nat, i + 1 ≤ j ∧ j < d.f1.length ∧ lget x (j : Int) = true ∧ 0 ≤ lget d.f2 (j : Int)) → (p ↔ ∃ j : Nat, i ≤ j ∧ j < d.f1.length ∧ lget x (j : Int) = true ∧ 0 ≤ lget d.f2 (j : Int)) := by
      intro p hp
      rw [hp]
      constructor
      · rintro (k | ⟨j, j1, j2, j3⟩)
        · exact ⟨i, Nat.le_refl _, by omega, k⟩
        · exact ⟨j, by omega, j2, j3⟩
      · rintro ⟨j, j1, j2, j3⟩
        rcases Nat.lt_or_ge i j with u | u
        · exact .inr ⟨j, by omega, j2, j3⟩
        · have : j = i := by omega
          subst this
          exact .inl j3
    by_cases c : lget x (i : Int) = true
    · rw [if_pos c, if_pos ⟨by omega, by omega⟩, Option.bind_some]
      by_cases e : 0 ≤ lget d.f2 (i : Int)
      · rw [decide_eq_true e, if_pos rfl]
        exact ⟨true, rfl, hstep (by simp [c, e])⟩
      · rw [decide_eq_false e, if_neg (by decide)]
        refine ⟨b, by exact_mod_cast b1, hstep ?_⟩
        rw [b2]; simp [e]
    · rw [if_neg c, Option.bind_some, if_neg (by decide)]
      refine ⟨b, by exact_mod_cast b1, hstep ?_⟩
      rw [b2]; simp [c]
theorem rmark_eq (d : S55) (k : Nat) (s : Int) : F34 k d s = some (mk d s) := by
  unfold F34 mk
  by_cases a : s < 0
  · rw [if_pos a, Option.bind_some, if_pos rfl, if_pos (.inl a)]
  · rw [if_neg a, Option.bind_some]
    by_cases b : (d.f2.length : Int) ≤ s
    · rw [decide_eq_true b, if_pos rfl, if_pos (.inr b)]
    · rw [decide_eq_false b, if_neg (by decide), if_pos ⟨by omega, by omega⟩, if_neg (by omega)]
theorem mk_in' {d : S55} (h : Dr d) {i : Int} (h0 : 0 ≤ i) (h1 : i < (d.f1.length : Int)) : mk d i = lget d.f2 i := by
  have hm := h.ml
  unfold mk
  rw [if_neg (by omega)]
/-- The document's can. -/
theorem can_eq {d : S55} (h : Dr d) {s : Int} (hs : 0 ≤ s ∧ s < (d.f1.length : Int)) {n : Nat} (hn : n ≤ 900) : ∃ b, F59 5000 d s (n : Int) = some b ∧ (b = true ↔ ∃ p, SR d s n p ∧ 0 ≤ mk d p) := by
  have hd := h.n2
  unfold F59
  by_cases z : n = 0
  · subst z
    rw [if_pos (show ((0 : Nat) : Int) = 0 from rfl), rmark_eq, Option.bind_some]
    refine ⟨_, rfl, ?_⟩
    rw [decide_eq_true_eq]
    exact ⟨fun k => ⟨s, rfl, k⟩, fun ⟨p, p1, p2⟩ => by rw [← show p = s from p1]; exact p2⟩
  · rw [if_neg (by omega), if_pos ⟨by omega, by omega, by omega⟩, Int.toNat_natCast, List.length_replicate, if_pos hs]
    obtain ⟨y, y1, y2⟩ := can_l9 h hs n hn n 0 5000 (lset (List.replicate d.f1.length false) s true) (by omega) (by omega) ⟨by rw [lset_len]; simp, fun p h0 h1 => by
      rw [lget_lsetB _ _ p true hs.1 (by simpa using hs.2) h0, lget_repB]
      show _ ↔ p = s
      by_cases e : p = s
      · rw [if_pos e]; simp [e]
      · rw [if_neg e]; simp [e]⟩
    obtain ⟨b, b1, b2⟩ := can_l1 h y1.1 d.f1.length 0 5000 (by omega) (by omega)
    refine ⟨b, ?_, ?_⟩
    · have y2 : F59_l9 5000 d (n : Int) 5000 _ (0 : Int) = _ := y2
      rw [y2]; exact b1
    · rw [b2]
      constructor
      · rintro ⟨j, _, j2, j3, j4⟩
        exact ⟨(j : Int), (y1.2 _ (by omega) (by omega)).1 j3, by rw [mk_in' h (by omega) (by omega)]; exact j4⟩
      · rintro ⟨p, p1, p2⟩
        have hp := SR.in h hs p1
        obtain ⟨j, rfl⟩ := Int.eq_ofNat_of_zero_le hp.1
        exact ⟨j, by omega, by omega, (y1.2 _ hp.1 hp.2).2 p1, by rw [← mk_in' h hp.1 hp.2]; exact p2⟩
end Go.Avl.T7
/- The shortest text: there is one just if a state with a mark is reached. -/
namespace Go.Avl.T7
open Go Go.RowKit Go.Proofs Go.Avl
set_option linter.all false
set_option maxRecDepth 10000

theorem SR_DR {d : S55} (h : Dr d) {s : Int} (hs : 0 ≤ s ∧ s < (d.f1.length : Int)) : ∀ {n : Nat} {p : Int}, SR d s n p → DR d s p
  | 0, p, k => by rw [show p = s from k]; exact .refl
  | n + 1, p, ⟨q, q1, q2, q3⟩ => by
    have hq := SR.in h hs q1
    obtain ⟨a, a1, a2⟩ := lget_mem q2
    rw [← a2] at q3 ⊢
    exact DR.step (SR_DR h hs q1) (by omega) q3
theorem DR_SR {d : S55} (h : Dr d) {s p : Int} (k : DR d s p) : ∃ n, SR d s n p := by
  induction k with
  | refl => exact ⟨0, rfl⟩
  | @step p c hp hc h0 ih =>
    obtain ⟨n, hn⟩ := ih
    exact ⟨n + 1, p, hn, mem_lget (by omega) hc, h0⟩
/-- The least number of steps. -/
def Dst (d : S55) (s : Int) (n : Nat) (p : Int) : Prop := SR d s n p ∧ ∀ i, i < n → ¬ SR d s i p
theorem Dst.ex {d : S55} {s p : Int} : ∀ (n : Nat), SR d s n p → ∃ m, Dst d s m p := by
  intro n
  induction n using Nat.strongRecOn with
  | ind n ih =>
    intro k
    by_cases q : ∃ i, i < n ∧ SR d s i p
    · obtain ⟨i, i1, i2⟩ := q
      exact ih i i1 i2
    · exact ⟨n, k, fun i hi hk => q ⟨i, hi, hk⟩⟩
theorem Dst.uniq {d : S55} {s p : Int} {n m : Nat} (h : Dst d s n p) (k : Dst d s m p) : n = m := by
  rcases Nat.lt_trichotomy n m with a | a | a
  · exact absurd h.1 (k.2 n a)
  · exact a
  · exact absurd k.1 (h.2 m a)
theorem Dst.path {d : S55} (h : Dr d) {s : Int} (hs : 0 ≤ s ∧ s < (d.f1.length : Int)) : ∀ (n : Nat) (p : Int), Dst d s n p → ∃ L : List Int, L.length = n + 1 ∧ L.Nodup ∧ (∀ x ∈ L, 0 ≤ x ∧ x < (d.f1.length : Int)) ∧ ∀ x ∈ L, ∃ j, j ≤ n ∧ Dst d s j x
  | 0, p, k => ⟨[p], rfl, by simp, fun x hx => by
      have : x = p := by simpa using hx
      rw [this]; exact SR.in h hs k.1, fun x hx => ⟨0, Nat.le_refl _, by
      have : x = p := by simpa using hx
      rw [this]; exact k⟩⟩
  | n + 1, p, k => by
    obtain ⟨q, q1, q2, q3⟩ := k.1
    have hq : Dst d s n q := ⟨q1, fun i hi hk => k.2 (i + 1) (by omega) ⟨q, hk, q2, q3⟩⟩
    obtain ⟨L, l1, l2, l3, l4⟩ := Dst.path h hs n q hq
    refine ⟨p :: L, by simp [l1], ?_, fun x hx => ?_, fun x hx => ?_⟩
    · refine List.nodup_cons.2 ⟨fun hm => ?_, l2⟩
      obtain ⟨j, j1, j2⟩ := l4 p hm
      have := j2.uniq k
      omega
    · rcases List.mem_cons.1 hx with e | e
      · rw [e]; exact SR.in h hs k.1
      · exact l3 x e
    · rcases List.mem_cons.1 hx with e | e
      · exact ⟨n + 1, Nat.le_refl _, by rw [e]; exact k⟩
      · obtain ⟨j, j1, j2⟩ := l4 x e
        exact ⟨j, by omega, j2⟩
theorem nodup_len' : ∀ (n : Nat) (L : List Int), L.Nodup → (∀ x ∈ L, 0 ≤ x ∧ x < (n : Int)) → L.length ≤ n
  | 0, L, _, h => by
    cases L with
    | nil => simp
    | cons x L => have := h x (by simp); omega
  | n + 1, L, hn, h => by
    have ih := nodup_len' n (L.erase (n : Int)) (hn.erase _) (fun x hx => by
      rw [hn.mem_erase_iff] at hx
      have := h x hx.2
      omega)
    by_cases q : (n : Int) ∈ L
    · rw [List.length_erase_of_mem q] at ih; omega
    · rw [List.erase_of_not_mem q] at ih; omega
theorem DR_short {d : S55} (h : Dr d) {s p : Int} (hs : 0 ≤ s ∧ s < (d.f1.length : Int)) (k : DR d s p) : ∃ n, n ≤ d.f1.length ∧ SR d s n p := by
  obtain ⟨n, hn⟩ := DR_SR h k
  obtain ⟨m, hm⟩ := Dst.ex n hn
  obtain ⟨L, l1, l2, l3, _⟩ := Dst.path h hs m p hm
  have := nodup_len' _ L l2 l3
  exact ⟨m, by omega, hm.1⟩
theorem rstep_eq {d : S55} (hb : Bytes d) (k : Nat) (s : Int) {c : Int} (h0 : 0 ≤ c) (h1 : c < 256) : F60 k d s c = some (stp d s c) := by
  have hv := hb c
  unfold F60 stp
  by_cases a : s < 0
  · rw [if_pos a, Option.bind_some, if_pos rfl, if_pos (.inl a)]
  · rw [if_neg a]
    by_cases b : (d.f1.length : Int) ≤ s
    · rw [if_pos b, Option.bind_some, if_pos rfl, if_pos (.inr (.inl b))]
    · rw [if_neg b, if_pos ⟨h0, h1⟩, if_pos ⟨by omega, by omega⟩, Option.bind_some, w6' (by omega) (by omega)]
      by_cases e : ((lget d.f1 s).length : Int) ≤ vget d.f0 c
      · rw [decide_eq_true e, if_pos rfl, if_pos (.inr (.inr e))]
      · rw [decide_eq_false e, if_neg (by decide), if_pos ⟨by omega, by omega⟩, if_pos ⟨h0, h1⟩, if_pos ⟨by omega, by omega⟩, if_neg (by omega)]
theorem stp_rng' {d : S55} (h : Dr d) {q c : Int} (hq : 0 ≤ q ∧ q < (d.f1.length : Int)) (c0 : 0 ≤ c) (c1 : c < 256) : -1 ≤ stp d q c ∧ stp d q c < (d.f1.length : Int) := by
  obtain ⟨b, rfl⟩ := Int.eq_ofNat_of_zero_le c0
  have hk := h.rowk hq.1 hq.2
  have hb := h.vb (b : Int)
  have hl := kcl_lt (v := d.f0) (b := b) (by omega)
  unfold stp
  rw [if_neg (by omega)]
  exact h.ent _ (mem_lget hq.1 hq.2) _ (mem_lget hb.1 (by omega))
theorem short_l4 {d : S55} (h : Dr d) (rec15 : ByteArray → Int → Int → Option (ByteArray × Bool)) (t : ByteArray) (ht : t.size ≤ 10000) {s : Int} (hs : 0 ≤ s ∧ s < (d.f1.length : Int)) (n : Nat) (hn : n ≤ 800) (hr : ∀ t' s', t'.size ≤ t.size + 1 → 0 ≤ s' ∧ s' < (d.f1.length : Int) → ∃ u, rec15 t' s' (n : Int) = some (u, true)) : ∀ (m b fuel : Nat), b + m = 256 → m < fuel → ∃ u, F30_l4 5000 rec15 d t s ((n + 1 : Nat) : Int) fuel (b : Int) = some (u, true)
  | 0, b, fu + 1, hb, _ => by
    obtain ⟨u, hu⟩ := hr t s (by omega) hs
    refine ⟨u, ?_⟩
    rw [F30_l4.eq_2, if_neg (by omega)]
    unfold F30_c3
    rw [w6' (by omega) (by omega), show ((n + 1 : Nat) : Int) - 1 = (n : Int) by omega]; exact hu
  | m + 1, b, fu + 1, hb, hf => by
    obtain ⟨u, hu⟩ := short_l4 h rec15 t ht hs n hn hr m (b + 1) fu (by omega) (by omega)
    have hst := stp_rng' h hs (c := (b : Int)) (by omega) (by omega)
    rw [F30_l4.eq_2, if_pos (by omega), rstep_eq h.vb _ _ (by omega) (by omega), Option.bind_some, w6' (x := ((n + 1 : Nat) : Int) - 1) (by omega) (by omega), w6' (x := (b : Int) + 1) (by omega) (by omega), show ((n + 1 : Nat) : Int) - 1 = (n : Int) by omega]
    have hu' : F30_l4 5000 rec15 d t s ((n + 1 : Nat) : Int) fu ((b : Int) + 1) = some (u, true) := by exact_mod_cast hu
    by_cases c : 0 ≤ stp d s (b : Int)
    · obtain ⟨x, x1, x2⟩ := can_eq h (s := stp d s (b : Int)) ⟨c, hst.2⟩ (n := n) (by omega)
      rw [if_pos c, x1, Option.bind_some, Option.bind_some]
      cases x with
      | true =>
        have e1 : (strOfNums [w8 (b : Int)]).size = 1 := by simp [strOfNums, ByteArray.size]
        obtain ⟨v, hv⟩ := hr (t ++ strOfNums [w8 (b : Int)]) (stp d s (b : Int)) (by rw [ByteArray.size_append, e1]; exact Nat.le_refl _) ⟨c, hst.2⟩
        refine ⟨v, ?_⟩
        rw [if_pos rfl, if_pos (by rw [e1]; omega)]
        unfold F30_c3
        rw [w6' (by omega) (by omega), show ((n + 1 : Nat) : Int) - 1 = (n : Int) by omega]; exact hv
      | false => exact ⟨u, by rw [if_neg (by decide)]; exact hu'⟩
    · rw [if_neg c, Option.bind_some, if_neg (by decide)]
      exact ⟨u, hu'⟩
theorem short_l5 {d : S55} (h : Dr d) : ∀ (n fuel : Nat) (t : ByteArray) (s : Int), n < fuel → n ≤ 800 → t.size + n ≤ 9000 → 0 ≤ s ∧ s < (d.f1.length : Int) → ∃ u, F30_l5 5000 d fuel t s (n : Int) = some (u, true)
  | 0, fu + 1, t, s, _, _, _, _ => ⟨t, by rw [F30_l5.eq_2, if_neg (by omega)]; rfl⟩
  | n + 1, fu + 1, t, s, hf, hn, ht, hs => by
    rw [F30_l5.eq_2, if_pos (by omega)]
    exact short_l4 h _ t (by omega) hs n (by omega) (fun t' s' h1 h2 => short_l5 h n fu t' s' (by omega) (by omega) (by omega) h2) 256 0 5000 (by omega) (by omega)
theorem short_l6 {d : S55} (h : Dr d) (hn : d.f1.length ≤ 800) : ∀ (m n fuel : Nat), n + m = d.f1.length + 1 → m < fuel → ∃ u b, F30_l6 5000 d fuel (n : Int) = some (u, b) ∧ (b = true ↔ ∃ j, n ≤ j ∧ j ≤ d.f1.length ∧ ∃ p, SR d 0 j p ∧ 0 ≤ mk d p)
  | 0, n, fu + 1, hm, _ => by
    refine ⟨ByteArray.mk #[], false, by rw [F30_l6.eq_2, if_neg (by omega)]; rfl, ?_⟩
    constructor
    · intro k; cases k
    · rintro ⟨j, j1, j2, _⟩; omega
  | m + 1, n, fu + 1, hm, hf => by
    have h1 := h.n1
    obtain ⟨u, b, b1, b2⟩ := short_l6 h hn m (n + 1) fu (by omega) (by omega)
    obtain ⟨x, x1, x2⟩ := can_eq h (s := 0) (by omega) (n := n) (by omega)
    rw [F30_l6.eq_2, if_pos (by omega), x1, Option.bind_some]
    cases x with
    | true =>
      obtain ⟨v, hv⟩ := short_l5 h n 5000 (ByteArray.mk #[]) 0 (by omega) (by omega) (by show 0 + n ≤ 9000; omega) (by omega)
      refine ⟨v, true, by rw [if_neg (by decide)]; exact hv, ?_⟩
      obtain ⟨p, hp⟩ := x2.1 rfl
      exact ⟨fun _ => ⟨n, Nat.le_refl _, by omega, p, hp⟩, fun _ => rfl⟩
    | false =>
      refine ⟨u, b, ?_, ?_⟩
      · rw [if_pos (by decide)]
        unfold F30_c1
        rw [w6' (by omega) (by omega)]
        exact_mod_cast b1
      · rw [b2]
        constructor
        · rintro ⟨j, j1, j2, j3⟩; exact ⟨j, by omega, j2, j3⟩
        · rintro ⟨j, j1, j2, p, p1, p2⟩
          rcases Nat.lt_or_ge n j with a | a
          · exact ⟨j, by omega, j2, p, p1, p2⟩
          · have : j = n := by omega
            subst this
            exact absurd (x2.2 ⟨p, p1, p2⟩) (by decide)
/-- Whether a machine has a text. -/
theorem short_eq {d : S55} (h : Dr d) (hn : d.f1.length ≤ 800) : ∃ u b, F30 5000 d = some (u, b) ∧ (b = true ↔ ∃ p, DR d 0 p ∧ 0 ≤ mk d p) := by
  have h1 := h.n1
  obtain ⟨u, b, b1, b2⟩ := short_l6 h hn (d.f1.length + 1) 0 5000 (by omega) (by omega)
  refine ⟨u, b, ?_, ?_⟩
  · unfold F30
    rw [h.rright, Option.bind_some, if_neg (by decide)]
    exact b1
  · rw [b2]
    constructor
    · rintro ⟨j, _, _, p, p1, p2⟩
      exact ⟨p, SR_DR h (by omega) p1, p2⟩
    · rintro ⟨p, p1, p2⟩
      obtain ⟨n, n1, n2⟩ := DR_short h (s := 0) (by omega) p1
      exact ⟨n, by omega, n1, p, n2, p2⟩
end Go.Avl.T7
/- rules.Hidden. -/
namespace Go.Avl.T7
open Go Go.RowKit Go.Proofs Go.Avl
set_option linter.all false
set_option maxRecDepth 10000

/-- A reached state has the mark. -/
def Sn (d : S55) (m : Int) : Prop := ∃ p, DR d 0 p ∧ mk d p = m
open Classical in
noncomputable def hid (d : S55) (i : Nat) : List Int := ((List.range i).map Int.ofNat).filter fun m => decide (¬ Sn d m)
open Classical in
theorem hid_succ (d : S55) (i : Nat) : hid d (i + 1) = if Sn d (i : Int) then hid d i else hid d i ++ [(i : Int)] := by
  unfold hid
  rw [List.range_succ, List.map_append, List.filter_append]
  by_cases c : Sn d (i : Int)
  · rw [if_pos c]; simp [c]
  · rw [if_neg c]; simp [c]
theorem hid_len (d : S55) (i : Nat) : (hid d i).length ≤ i := by
  unfold hid
  refine Nat.le_trans (List.length_filter_le _ _) ?_
  simp
theorem hidden_l5 {d : S55} (h : Dr d) {R : List Bool} (hR : RS d 0 R) {n : Nat} (hn : n ≤ 20) : ∀ (m i fuel : Nat) (x : List Bool), i + m = d.f2.length → m < fuel → x.length = n → (∀ q : Nat, q < n → (lget x (q : Int) = true ↔ ∃ j : Nat, j < i ∧ lget d.f2 (j : Int) = (q : Int) ∧ DR d 0 (j : Int))) →
    ∃ y, y.length = n ∧ (∀ q : Nat, q < n → (lget y (q : Int) = true ↔ Sn d (q : Int))) ∧ F29_l5 5000 d (n : Int) R fuel x (i : Int) = F29_c3 5000 y
  | 0, i, fu + 1, x, hi, _, hx, hq => by
    have hm := h.ml
    have h1 := h.n1
    refine ⟨x, hx, fun q q1 => ?_, by rw [F29_l5.eq_2, if_neg (by omega)]⟩
    rw [hq q q1]
    constructor
    · rintro ⟨j, j1, j2, j3⟩
      exact ⟨(j : Int), j3, by rw [mk_in' h (by omega) (by omega)]; exact j2⟩
    · rintro ⟨p, p1, p2⟩
      have hp := DR.in h (s := 0) (by omega) p1
      obtain ⟨j, rfl⟩ := Int.eq_ofNat_of_zero_le hp.1
      exact ⟨j, by omega, by rw [← mk_in' h hp.1 hp.2]; exact p2, p1⟩
  | m + 1, i, fu + 1, x, hi, hf, hx, hq => by
    have hm := h.ml
    have h1 := h.n1
    have h2 := h.n2
    have hRl := hR.1
    have hRi := hR.2 (i : Int) (by omega) (by omega)
    have hgo : ∀ y : List Bool, y.length = n → (∀ q : Nat, q < n → (lget y (q : Int) = true ↔ ∃ j : Nat, j < i + 1 ∧ lget d.f2 (j : Int) = (q : Int) ∧ DR d 0 (j : Int))) → ∃ z, z.length = n ∧ (∀ q : Nat, q < n → (lget z (q : Int) = true ↔ Sn d (q : Int))) ∧ F29_c4 5000 (F29_l5 5000 d (n : Int) R fu) (i : Int) y = F29_c3 5000 z := by
      intro y y1 y2
      obtain ⟨z, z1, z2, z3⟩ := hidden_l5 h hR hn m (i + 1) fu y (by omega) (by omega) y1 y2
      refine ⟨z, z1, z2, ?_⟩
      unfold F29_c4
      rw [w6' (by omega) (by omega)]
      exact_mod_cast z3
    have same : (¬ (0 ≤ lget d.f2 (i : Int) ∧ lget d.f2 (i : Int) < (n : Int) ∧ lget R (i : Int) = true)) → ∀ q : Nat, q < n → (lget x (q : Int) = true ↔ ∃ j : Nat, j < i + 1 ∧ lget d.f2 (j : Int) = (q : Int) ∧ DR d 0 (j : Int)) := by
      intro hno q q1
      rw [hq q q1]
      constructor
      · rintro ⟨j, j1, j2⟩; exact ⟨j, by omega, j2⟩
      · rintro ⟨j, j1, j2, j3⟩
        rcases Nat.lt_or_ge j i with a | a
        · exact ⟨j, a, j2, j3⟩
        · have : j = i := by omega
          subst this
          exact absurd ⟨by omega, by omega, hRi.2 ⟨by omega, j3⟩⟩ hno
    rw [F29_l5.eq_2, if_pos (by omega), if_pos ⟨by omega, by omega⟩]
    by_cases a : 0 ≤ lget d.f2 (i : Int)
    · rw [if_pos a]
      by_cases b : lget d.f2 (i : Int) < (n : Int)
      · rw [if_pos b, if_pos ⟨by omega, by omega⟩, Option.bind_some]
        by_cases c : lget R (i : Int) = true
        · rw [if_pos c, if_pos ⟨a, by omega⟩]
          refine hgo _ (by rw [lset_len]; exact hx) fun q q1 => ?_
          rw [lget_lsetB x _ (q : Int) true a (by omega) (by omega)]
          by_cases e : (q : Int) = lget d.f2 (i : Int)
          · rw [if_pos e]
            exact ⟨fun _ => ⟨i, by omega, e.symm, (hRi.1 c).2⟩, fun _ => rfl⟩
          · rw [if_neg e, hq q q1]
            constructor
            · rintro ⟨j, j1, j2⟩; exact ⟨j, by omega, j2⟩
            · rintro ⟨j, j1, j2, j3⟩
              rcases Nat.lt_or_ge j i with u | u
              · exact ⟨j, u, j2, j3⟩
              · have : j = i := by omega
                subst this
                exact absurd j2.symm e
        · rw [if_neg c]
          exact hgo x hx (same fun k => c k.2.2)
      · rw [if_neg b, Option.bind_some, if_neg (by decide)]
        exact hgo x hx (same fun k => b k.2.1)
    · rw [if_neg a, Option.bind_some, if_neg (by decide)]
      exact hgo x hx (same fun k => a k.1)
theorem hidden_l2 {d : S55} {n : Nat} (hn : n ≤ 20) {y : List Bool} (hy : y.length = n) (hq : ∀ q : Nat, q < n → (lget y (q : Int) = true ↔ Sn d (q : Int))) : ∀ (m i fuel : Nat), i + m = n → m < fuel → F29_l2 5000 y fuel (hid d i) (i : Int) = some (hid d n)
  | 0, i, fu + 1, hi, _ => by
    rw [F29_l2.eq_2, if_neg (by omega), show i = n by omega]; rfl
  | m + 1, i, fu + 1, hi, hf => by
    have ih := hidden_l2 hn hy hq m (i + 1) fu (by omega) (by omega)
    have hl := hid_len d i
    have hqi := hq i (by omega)
    rw [hid_succ] at ih
    rw [F29_l2.eq_2, if_pos (by omega), if_pos ⟨by omega, by omega⟩]
    unfold F29_c1
    rw [w6' (by omega) (by omega)]
    by_cases c : lget y (i : Int) = true
    · rw [if_pos (hqi.1 c)] at ih
      rw [c, if_neg (by decide)]
      exact_mod_cast ih
    · rw [if_neg fun k => c (hqi.2 k)] at ih
      rw [Bool.eq_false_iff.2 c, if_pos (by decide), if_pos (by simp; omega)]
      exact_mod_cast ih
theorem hidden_eq {d : S55} (h : Dr d) {n : Nat} (hn : n ≤ 20) : F29 5000 d (n : Int) = some (hid d n) := by
  have h1 := h.n1
  have hm := h.ml
  have h2 := h.n2
  obtain ⟨R, r1, r2⟩ := reached_eq h 0
  unfold F29
  have e : max (n : Int) 0 = (n : Int) := by omega
  rw [e, if_pos ⟨by omega, by omega, by omega⟩, r1, Option.bind_some, Int.toNat_natCast]
  obtain ⟨y, y1, y2, y3⟩ := hidden_l5 h r2 hn d.f2.length 0 5000 (List.replicate n false) (by omega) (by omega) (by simp) (fun q q1 => by
    rw [lget_repB]
    constructor
    · intro k; cases k
    · rintro ⟨j, j1, _⟩; omega)
  have y3 : F29_l5 5000 d (n : Int) R 5000 _ (0 : Int) = _ := y3
  rw [y3]
  exact hidden_l2 hn y1 y2 n 0 5000 (by omega) (by omega)
end Go.Avl.T7
/- RulesHidden: the plain law. -/
namespace Go.Avl.T7
open Go Go.RowKit Go.Proofs Go.Avl
set_option linter.all false
set_option maxRecDepth 10000

theorem blanks11 : F31 5000 = some (vset (Vector.replicate 4 (0 : Int)) (0 : Int) (4294977024 : Int)) := by decide +kernel
def mkr (m : Int) (y : Int) : Int := if y = m then 0 else -1
def XM (d : S55) (m : Int) : S55 := S55.mk d.f0 d.f1 (d.f2.map (mkr m))
theorem XM_Dr {d : S55} (h : Dr d) (m : Int) : Dr (XM d m) := by
  refine ⟨h.n1, h.n2, by show (d.f2.map _).length = _; rw [List.length_map]; exact h.ml, h.vb, h.gap, h.row, h.ent, fun x hx => ?_⟩
  obtain ⟨y, hy, rfl⟩ := List.mem_map.1 (show x ∈ d.f2.map (mkr m) from hx)
  unfold mkr
  split <;> omega
theorem DR_same {d e : S55} {s p : Int} (hf : d.f1 = e.f1) (k : DR d s p) : DR e s p := by
  induction k with
  | refl => exact .refl
  | @step q c hp hc h0 ih =>
    have er : rw' d q = rw' e q := by show lget d.f1 q = lget e.f1 q; rw [hf]
    rw [er] at hc h0 ⊢
    exact .step ih hc h0
theorem XM_some {d : S55} (h : Dr d) {m : Int} : (∃ p, DR (XM d m) 0 p ∧ 0 ≤ mk (XM d m) p) ↔ Sn d m := by
  have h1 := h.n1
  have hm := h.ml
  have key : ∀ p, DR d 0 p → (0 ≤ mk (XM d m) p ↔ mk d p = m) := by
    intro p hp
    have hr := DR.in h (s := 0) (by omega) hp
    obtain ⟨j, rfl⟩ := Int.eq_ofNat_of_zero_le hr.1
    rw [mk_in' (XM_Dr h m) hr.1 hr.2, mk_in' h hr.1 hr.2]
    show 0 ≤ lget (d.f2.map (mkr m)) (j : Int) ↔ _
    rw [lget_lt _ j (by simp; omega), lget_lt _ j (by omega), List.getElem_map]
    unfold mkr
    split <;> omega
  constructor
  · rintro ⟨p, p1, p2⟩
    have p1 := DR_same (d := XM d m) (e := d) rfl p1
    exact ⟨p, p1, (key p p1).1 p2⟩
  · rintro ⟨p, p1, p2⟩
    exact ⟨p, DR_same (d := d) (e := XM d m) rfl p1, (key p p1).2 p2⟩
theorem hl4 {d : S55} (hz : d.f2.length ≤ 1000) (rec21 : Int → Int → Option Bool) (t12 : List Int) (x19 m : Int) : ∀ (n i fuel : Nat) (a : List Int), i + n = d.f2.length → n < fuel → a.length ≤ i →
    F6_l4 5000 rec21 d t12 x19 m fuel a (i : Int) = F6_c2 5000 rec21 d t12 x19 m (a ++ (d.f2.drop i).map (mkr m))
  | 0, i, fu + 1, a, hi, _, _ => by
    rw [F6_l4.eq_2, if_neg (by omega), List.drop_of_length_le (by omega), List.map_nil, List.append_nil]
  | n + 1, i, fu + 1, a, hi, hf, ha => by
    have hi' : i < d.f2.length := by omega
    have go : ∀ v : Int, v = mkr m (lget d.f2 (i : Int)) → F6_c3 5000 (F6_l4 5000 rec21 d t12 x19 m fu) a (i : Int) v = F6_c2 5000 rec21 d t12 x19 m (a ++ (d.f2.drop i).map (mkr m)) := by
      intro v hv
      have ih := hl4 hz rec21 t12 x19 m n (i + 1) fu (a ++ [v]) (by omega) (by omega) (by simp; omega)
      unfold F6_c3
      rw [if_pos (by simp; omega), w6' (by omega) (by omega), List.drop_eq_getElem_cons hi', List.map_cons, ← lget_lt _ i hi', ← hv]
      rw [List.append_assoc] at ih
      exact_mod_cast ih
    rw [F6_l4.eq_2, if_pos (by omega), if_pos ⟨by omega, by omega⟩]
    by_cases c : lget d.f2 (i : Int) = m
    · rw [if_pos c]; exact go _ (by unfold mkr; rw [if_pos c])
    · rw [if_neg c]; exact go _ (by unfold mkr; rw [if_neg c])
theorem hid_pre (d : S55) (i : Nat) : ∀ k : Nat, ∃ r, hid d (i + k) = hid d i ++ r
  | 0 => ⟨[], by simp⟩
  | k + 1 => by
    obtain ⟨r, hr⟩ := hid_pre d i k
    rw [show i + (k + 1) = (i + k) + 1 by omega, hid_succ]
    split
    · exact ⟨r, hr⟩
    · exact ⟨r ++ [((i + k : Nat) : Int)], by rw [hr, List.append_assoc]⟩
theorem hl5 {d : S55} (h : Dr d) (hs : d.f1.length ≤ 800) {n : Nat} (hn : n ≤ 20) (a1 : Int) (ha : w64 (a1.tmod 20) = (n : Int)) : ∀ (m i fuel : Nat), i + m = n → m < fuel → F6_l5 5000 d a1 (hid d n) fuel ((hid d i).length : Int) (i : Int) = some true
  | 0, i, fu + 1, hi, _ => by
    rw [F6_l5.eq_2, ha, if_neg (by omega), show i = n by omega]
    unfold F6_c0
    rw [blanks11, Option.bind_some, if_pos rfl, Option.bind_some, decide_eq_true rfl]
  | m + 1, i, fu + 1, hi, hf => by
    have hm := h.ml
    have hl := hid_len d i
    have ih := hl5 h hs hn a1 ha m (i + 1) fu (by omega) (by omega)
    have l4 := hl4 (d := d) (by omega) (F6_l5 5000 d a1 (hid d n) fu) (hid d n) ((hid d i).length : Int) (i : Int) d.f2.length 0 5000 [] (by omega) (by omega) (by simp)
    rw [List.drop_zero, List.nil_append] at l4
    have l4 : F6_l4 5000 _ d _ _ _ 5000 [] (0 : Int) = _ := l4
    rw [F6_l5.eq_2, ha, if_pos (by omega), l4]
    unfold F6_c2
    obtain ⟨u, b, b1, b2⟩ := short_eq (XM_Dr h (i : Int)) hs
    have b1 : F30 5000 (S55.mk d.f0 d.f1 (d.f2.map (mkr (i : Int)))) = some (u, b) := b1
    rw [XM_some h] at b2
    rw [b1, Option.bind_some]
    unfold F6_c1
    rw [w6' (x := (i : Int) + 1) (by omega) (by omega)]
    have hsu := hid_succ d i
    by_cases c : Sn d (i : Int)
    · rw [if_pos c] at hsu
      rw [if_pos (b2.2 c)]
      rw [hsu] at ih
      exact_mod_cast ih
    · rw [if_neg c] at hsu
      rw [if_neg fun k => c (b2.1 k)]
      obtain ⟨r, hr⟩ := hid_pre d (i + 1) (n - (i + 1))
      rw [show i + 1 + (n - (i + 1)) = n by omega] at hr
      have hlt : (hid d i).length < (hid d n).length := by rw [hr, hsu]; simp
      have hget : lget (hid d n) ((hid d i).length : Int) = (i : Int) := by
        rw [lget_lt _ _ hlt]
        simp only [hr, hsu]
        rw [List.getElem_append_left (by simp), List.getElem_append_right (by omega)]
        simp
      rw [if_neg (by omega), if_pos ⟨by omega, by omega⟩, hget, Option.bind_some, decide_eq_false (by simp), if_neg (by decide), w6' (by omega) (by omega)]
      rw [hsu, List.length_append] at ih
      exact_mod_cast ih
theorem bosketlaw11_RulesHidden_true (a0 : S55) (a1 : Int) (h0 : wf55 a0) (h1 : wf5 a1) : ∃ k, F6 k a0 a1 = some true := by
  refine ⟨5000, ?_⟩
  obtain ⟨b, b1, b2⟩ := small_some a0 (Nat.le_refl 5000)
  unfold F6
  rw [awake11, Option.bind_some, if_neg (by decide), b1, Option.bind_some]
  cases b with
  | false => rfl
  | true =>
    obtain ⟨s1, s2, s3⟩ := b2 rfl
    have hv : VB a0.f0 := bytes_of h0
    have hr := rdright_eq hv s3 (by omega)
    rw [if_neg (by decide), hr, Option.bind_some, Option.bind_some]
    cases hb : rgB a0 with
    | false => rfl
    | true =>
      have h : Dr a0 := (rgB_iff hv (by omega)).1 hb
      have hu := u8_of h1
      obtain ⟨q, rfl⟩ := Int.eq_ofNat_of_zero_le hu.1
      have ha : w64 ((q : Int).tmod 20) = ((q % 20 : Nat) : Int) := by
        have : (q : Int).tmod 20 = ((q % 20 : Nat) : Int) := rfl
        rw [this, w6' (by omega) (by omega)]
      rw [if_neg (by decide), ha, hidden_eq h (by omega), Option.bind_some]
      exact hl5 h (by omega) (by omega) (q : Int) ha (q % 20) 0 5000 (by omega) (by omega)
end Go.Avl.T7
