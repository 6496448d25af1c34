/- Parts: T3W, T3S1, T3N1, T3D0, T3D1, T3D2, T3D3, T3D4, T3D5, T3PureDfaKeeps. -/
import Derived.Test.YtcdennkoccjacaaAF1
import Derived.Test.YtcdennkoccjacaaAv3
import Derived.Laws.Bits64b
import Derived.Test.YtcdennkoccjacaaAF2
import Derived.Test.YtcdennkoccjacaaAF3
import Derived.Test.YtcdennkoccjacaaAF4
/- Opening of the arguments; printed by avlaw.py. -/
namespace Go.Avl.T3
open Go Go.RowKit Go.Proofs Go.Avl
set_option linter.unusedVariables false
set_option maxRecDepth 100000
abbrev e47 (v : Vector Int 256) : AV := .ar 1 (v.toList.map eU8)
abbrev e48 (l : List (List Int)) : AV := .fz 1 (l.map e43)
abbrev e51 (v : Vector Int 2) : AV := .ar 1 (v.toList.map eU8)
theorem sz51 : tySize Try.prog 51 = some 2 := by rfl
theorem ag51 : tyAgg Try.prog 51 = some true := by rfl
abbrev wf3 : Int → Prop := (fun n : Int => (Lit.int .i64 n).wf = true)
theorem op3 : Opens Try.prog 3 eI64 wf3 := opens_int Try.underlying3
abbrev wf9 : ByteArray → Prop := (fun s : ByteArray => s.size ≤ 9223372036854775807)
theorem op9 : Opens Try.prog 9 eStr wf9 := opens_string Try.underlying9
abbrev wf5 : Int → Prop := (fun n : Int => (Lit.int .u8 n).wf = true)
theorem op5 : Opens Try.prog 5 eU8 wf5 := opens_int Try.underlying5
abbrev wf47 : (Vector Int 256) → Prop := (fun l : Vector Int 256 => ∀ a ∈ l.toList, wf5 a)
theorem op47 : Opens Try.prog 47 e47 wf47 := opens_array Try.underlying47 sz5 sz47 op5
abbrev wf43 : (List Int) → Prop := (fun l : List Int => l.length ≤ 9223372036854775807 ∧ ∀ a ∈ l, wf3 a)
theorem op43 : Opens Try.prog 43 e43 wf43 := opens_slice Try.underlying43 sz3 op3
abbrev wf48 : (List (List Int)) → Prop := (fun l : List (List Int) => l.length ≤ 9223372036854775807 ∧ ∀ a ∈ l, wf43 a)
theorem op48 : Opens Try.prog 48 e48 wf48 := opens_slice Try.underlying48 sz43 op43
abbrev wf50 : S50 → Prop := (fun x : S50 => wf47 x.f0 ∧ wf48 x.f1 ∧ wf43 x.f2)
theorem op50 : Opens Try.prog 50 e50 wf50 := (opens_struct Try.underlying50 sz50 (opensF_cons rfl sz47 (by decide) op47 (opensF_cons rfl sz48 (by decide) op48 (opensF_cons rfl sz43 (by decide) op43 (opensF_nil _))))).map (fun p => S50.mk p.1 p.2.1 p.2.2.1) (fun _ => rfl) (fun _ h => ⟨h.1, h.2.1, h.2.2.1⟩)
abbrev wf51 : (Vector Int 2) → Prop := (fun l : Vector Int 2 => ∀ a ∈ l.toList, wf5 a)
theorem op51 : Opens Try.prog 51 e51 wf51 := opens_array Try.underlying51 sz5 sz51 op5
end Go.Avl.T3
/- Ported: texts between quotes. -/
namespace Go.Avl.T3
open Go Go.RowKit Go.Proofs Go.Avl
set_option linter.all false
set_option maxRecDepth 10000

def U (a : Vector Int 4) : Prop := ∀ j : Nat, j < 4 → 0 ≤ vget a (j : Int) ∧ vget a (j : Int) < 18446744073709551616
end Go.Avl.T3
/- Machines that may be in several states: what both answer, as plain lists. -/
namespace Go.Avl.T3
open Go Go.RowKit Go.Proofs Go.Avl
set_option linter.all false
set_option maxRecDepth 10000

theorem lget_lt {α : Type} [Inhabited α] (l : List α) (i : Nat) (h : i < l.length) : lget l (i : Int) = l[i] := by simp [lget, List.getD, List.getElem?_eq_getElem h]
theorem lset_len {α : Type} (l : List α) (i : Int) (x : α) : (lset l i x).length = l.length := by simp [lset]
/-- How many states. -/
def cnt (x : List Bool) : Nat := x.count true
theorem cnt_le (x : List Bool) : cnt x ≤ x.length := List.count_le_length
theorem cnt_set : ∀ (x : List Bool) (i : Nat), i < x.length → x[i]? = some false → cnt (x.set i true) = cnt x + 1
  | b :: x, 0, _, h => by simp at h; subst h; simp [cnt]
  | b :: x, i + 1, hi, h => by
    have := cnt_set x i (by simpa using hi) (by simpa using h)
    simp only [cnt, List.set_cons_succ, List.count_cons] at this ⊢
    omega
end Go.Avl.T3
/- Ported: texts between quotes. -/
namespace Go.Avl.T3
open Go Go.RowKit Go.Proofs Go.Avl
set_option linter.all false
set_option maxRecDepth 10000

theorem u8_of {n : Int} (h : (Lit.int .u8 n).wf = true) : 0 ≤ n ∧ n ≤ 255 := by
  simpa [Lit.wf, show IntKind.u8.min = 0 from rfl, show IntKind.u8.max = 255 from rfl] using h
def Bytes (p0 : S50) : Prop := ∀ c : Int, 0 ≤ vget p0.f0 c ∧ vget p0.f0 c ≤ 255
theorem bytes_of {p0 : S50} (h : wf50 p0) : Bytes p0 := by
  intro c
  have h1 := h.1
  by_cases hc : c.toNat < p0.f0.toList.length
  · have : vget p0.f0 c = p0.f0.toList[c.toNat] := by simp [vget, List.getD, List.getElem?_eq_getElem hc]
    rw [this]; exact u8_of (h1 _ (List.getElem_mem hc))
  · have : vget p0.f0 c = 0 := by
      have : p0.f0.toList[c.toNat]? = none := List.getElem?_eq_none (by omega)
      simp only [vget, List.getD, this]; rfl
    rw [this]; omega

def stp (p0 : S50) (s c : Int) : Int := if s < 0 ∨ (p0.f1.length : Int) ≤ s ∨ ((lget p0.f1 s).length : Int) ≤ vget p0.f0 c then -1 else lget (lget p0.f1 s) (vget p0.f0 c)
def mk (p0 : S50) (s : Int) : Int := if s < 0 ∨ (p0.f2.length : Int) ≤ s then -1 else lget p0.f2 s

theorem step_eq {p0 : S50} (hb : Bytes p0) (k : Nat) (s : Int) {c : Int} (h0 : 0 ≤ c) (h1 : c < 256) : dfa_Step k p0 s c = some (stp p0 s c) := by
  have hv := hb c
  have hw : w64 (vget p0.f0 c) = vget p0.f0 c := w64_id (by omega) (by omega)
  unfold dfa_Step stp
  rw [hw]
  by_cases a : s < 0
  · simp [a]
  · by_cases b : (p0.f1.length : Int) ≤ s
    · simp [a, b]
    · have g : 0 ≤ s ∧ s < (p0.f1.length : Int) := ⟨by omega, by omega⟩
      by_cases d : ((lget p0.f1 s).length : Int) ≤ vget p0.f0 c
      · simp [a, b, d, h0, h1, g]
      · simp [a, b, d, h0, h1, g, hv]
theorem mark_eq (p0 : S50) (k : Nat) (s : Int) : dfa_Mark k p0 s = some (mk p0 s) := by
  unfold dfa_Mark mk
  by_cases a : s < 0
  · simp [a]
  · by_cases b : (p0.f2.length : Int) ≤ s
    · simp [a, b]
    · simp [a, b]
theorem stp_neg (p0 : S50) (c : Int) : stp p0 (-1) c = -1 := by simp [stp]
theorem mk_neg (p0 : S50) : mk p0 (-1) = -1 := by simp [mk]
theorem small_l {p0 : S50} (k : Nat) (hn : p0.f1.length ≤ 20) : ∀ (m i : Nat), i ≤ p0.f1.length → p0.f1.length - i < m → ∃ b, bosketlaw08_Small_l1 k p0 m i = some b ∧ (b = true → ∀ j, i ≤ j → (h : j < p0.f1.length) → (p0.f1[j]).length ≤ 256)
  | 0, i, _, h => by omega
  | m + 1, i, hi, h => by
    rw [bosketlaw08_Small_l1.eq_2]
    by_cases a : (i : Int) < (p0.f1.length : Int)
    · have hlt : i < p0.f1.length := by omega
      have hrow : lget p0.f1 (i : Int) = p0.f1[i] := by simp [lget, List.getD, List.getElem?_eq_getElem hlt]
      rw [if_pos a, if_pos ⟨by omega, a⟩, hrow]
      by_cases b : (256 : Int) < ((p0.f1[i]).length : Int)
      · rw [if_pos b]; exact ⟨false, rfl, fun h => by cases h⟩
      · rw [if_neg b, w64_id (by omega) (by omega)]
        obtain ⟨c, h1, h2⟩ := small_l k hn m (i + 1) (by omega) (by omega)
        refine ⟨c, by simpa using h1, fun hc j hj hlt' => ?_⟩
        by_cases e : j = i
        · subst e; omega
        · exact h2 hc j (by omega) hlt'
    · rw [if_neg a]; exact ⟨true, rfl, fun _ j hj hlt => by omega⟩
theorem small_some (p0 : S50) {k : Nat} (hk : 2000 ≤ k) : ∃ b, bosketlaw08_Small k p0 = some b ∧ (b = true → p0.f1.length ≤ 20 ∧ p0.f2.length ≤ 30 ∧ ∀ r ∈ p0.f1, r.length ≤ 256) := by
  unfold bosketlaw08_Small
  by_cases a : (20 : Int) < (p0.f1.length : Int)
  · rw [if_pos a, Option.bind_some, if_pos rfl]; exact ⟨_, rfl, fun h => by cases h⟩
  · rw [if_neg a, Option.bind_some]
    by_cases b : (30 : Int) < (p0.f2.length : Int)
    · rw [if_pos (by simpa using b)]; exact ⟨_, rfl, fun h => by cases h⟩
    · rw [if_neg (by simpa using b)]
      obtain ⟨c, h1, h2⟩ := small_l (p0 := p0) k (by omega) k 0 (by omega) (by omega)
      refine ⟨c, by simpa using h1, fun hc => ⟨by omega, by omega, fun r hr => ?_⟩⟩
      obtain ⟨j, hj, rfl⟩ := List.getElem_of_mem hr
      exact h2 hc j (by omega) hj
end Go.Avl.T3
/- Machines in one state: when they may be, what both answer of them. -/
namespace Go.Avl.T3
open Go Go.RowKit Go.Proofs Go.Avl
set_option linter.all false
set_option maxRecDepth 10000

/-- Of so many numbers from one on: all, some. -/
def allB (p : Nat → Bool) : Nat → Nat → Bool
  | 0, _ => true
  | m + 1, i => p i && allB p m (i + 1)
def anyB' (p : Nat → Bool) : Nat → Nat → Bool
  | 0, _ => false
  | m + 1, i => p i || anyB' p m (i + 1)
theorem allB_iff (p : Nat → Bool) : ∀ (m i : Nat), allB p m i = true ↔ ∀ j, i ≤ j → j < i + m → p j = true
  | 0, i => by simp [allB]; omega
  | m + 1, i => by
    rw [allB, Bool.and_eq_true, allB_iff p m (i + 1)]
    constructor
    · rintro ⟨h1, h2⟩ j hj hj'
      by_cases e : j = i
      · rw [e]; exact h1
      · exact h2 j (by omega) (by omega)
    · intro h
      exact ⟨h i (by omega) (by omega), fun j hj hj' => h j (by omega) (by omega)⟩
theorem anyB_iff (p : Nat → Bool) : ∀ (m i : Nat), anyB' p m i = true ↔ ∃ j, i ≤ j ∧ j < i + m ∧ p j = true
  | 0, i => by simp [anyB']; omega
  | m + 1, i => by
    rw [anyB', Bool.or_eq_true, anyB_iff p m (i + 1)]
    constructor
    · rintro (h | ⟨j, h1, h2, h3⟩)
      · exact ⟨i, by omega, by omega, h⟩
      · exact ⟨j, by omega, by omega, h3⟩
    · rintro ⟨j, h1, h2, h3⟩
      by_cases e : j = i
      · exact .inl (e ▸ h3)
      · exact .inr ⟨j, by omega, by omega, h3⟩
/-- How many classes, after so many bytes. -/
def kc (v : Vector Int 256) : Nat → Int
  | 0 => 0
  | b + 1 => max (kc v b) (vget v (b : Int) + 1)
def kcl (v : Vector Int 256) : Int := kc v 256
def VB (v : Vector Int 256) : Prop := ∀ c : Int, 0 ≤ vget v c ∧ vget v c ≤ 255
theorem kc_rng {v : Vector Int 256} (h : VB v) : ∀ b : Nat, 0 ≤ kc v b ∧ kc v b ≤ 256
  | 0 => by simp [kc]
  | b + 1 => by
    have := kc_rng h b
    have := h (b : Int)
    rw [kc]; omega
theorem kc_lt {v : Vector Int 256} : ∀ (m b : Nat), b < m → vget v (b : Int) < kc v m
  | 0, b, h => by omega
  | m + 1, b, h => by
    rw [kc]
    by_cases e : b = m
    · subst e; omega
    · have := kc_lt (v := v) m b (by omega); omega
theorem kcl_lt {v : Vector Int 256} {b : Nat} (h : b < 256) : vget v (b : Int) < kcl v := kc_lt 256 b h
theorem w64s {x : Int} (h0 : -1000000000000 ≤ x) (h1 : x ≤ 1000000000000) : w64 x = x := w64_id (by omega) (by omega)
theorem count_l {v : Vector Int 256} (h : VB v) : ∀ (m b fuel : Nat), b + m = 256 → m < fuel → byteset_Count_l1 2000 v fuel (kc v b) (b : Int) = some (kcl v)
  | 0, b, f + 1, hb, _ => by
    rw [byteset_Count_l1.eq_2, if_neg (by omega), byteset_Count_c0, show b = 256 by omega]; rfl
  | m + 1, b, f + 1, hb, hf => by
    have h0 := h (b : Int)
    have ih := count_l h m (b + 1) f (by omega) (by omega)
    rw [byteset_Count_l1.eq_2, if_pos (by omega), if_pos ⟨by omega, by omega⟩, w64s (x := vget v (b : Int)) (by omega) (by omega), w64s (by omega) (by omega), w64s (by omega) (by omega)]
    rw [kc] at ih
    exact_mod_cast ih
theorem count_eq {v : Vector Int 256} (h : VB v) : byteset_Count 2000 v = some (kcl v) := count_l h 256 0 2000 (by omega) (by omega)
theorem classes_l {d : S50} (h : VB d.f0) : ∀ (m b fuel : Nat), b + m = 256 → m < fuel → bosketref08_classes_l1 2000 d fuel (kc d.f0 b) (b : Int) = some (kcl d.f0)
  | 0, b, f + 1, hb, _ => by
    rw [bosketref08_classes_l1.eq_2, if_neg (by omega), bosketref08_classes_c0, show b = 256 by omega]; rfl
  | m + 1, b, f + 1, hb, hf => by
    have h0 := h (b : Int)
    have ih := classes_l h m (b + 1) f (by omega) (by omega)
    rw [bosketref08_classes_l1.eq_2, if_pos (by omega), if_pos ⟨by omega, by omega⟩, w64s (x := vget d.f0 (b : Int)) (by omega) (by omega), w64s (by omega) (by omega), w64s (by omega) (by omega)]
    rw [kc] at ih
    exact_mod_cast ih
theorem classes_eq {d : S50} (h : VB d.f0) : bosketref08_classes 2000 d = some (kcl d.f0) := classes_l h 256 0 2000 (by omega) (by omega)
/-! Has each class a byte? -/
def hasB (v : Vector Int 256) (c : Nat) : Bool := anyB' (fun b => decide (vget v (b : Int) = (c : Int))) 256 0
def gapB (v : Vector Int 256) : Bool := allB (hasB v) (kcl v).toNat 0
theorem hasB_iff (v : Vector Int 256) (c : Nat) : hasB v c = true ↔ ∃ b : Nat, b < 256 ∧ vget v (b : Int) = c := by
  unfold hasB
  rw [anyB_iff]
  constructor
  · rintro ⟨b, _, h2, h3⟩; exact ⟨b, by omega, of_decide_eq_true h3⟩
  · rintro ⟨b, h1, h2⟩; exact ⟨b, by omega, by omega, decide_eq_true h2⟩
theorem rgap_l3 {d : S50} (h : VB d.f0) (rec4 : Int → Option Bool) (c : Nat) : ∀ (m b fuel : Nat) (acc : Bool), b + m = 256 → m < fuel →
    bosketref08_gapless_l3 2000 rec4 d (c : Int) fuel acc (b : Int) = bosketref08_gapless_c2 2000 rec4 (c : Int) (acc || anyB' (fun b => decide (vget d.f0 (b : Int) = (c : Int))) m b)
  | 0, b, f + 1, acc, hb, _ => by
    rw [bosketref08_gapless_l3.eq_2, if_neg (by omega), anyB', Bool.or_false]
  | m + 1, b, f + 1, acc, hb, hf => by
    have h0 := h (b : Int)
    have ih := fun acc => rgap_l3 h rec4 c m (b + 1) f acc (by omega) (by omega)
    have g : 0 ≤ (b : Int) ∧ (b : Int) < 256 := ⟨by omega, by omega⟩
    rw [bosketref08_gapless_l3.eq_2, if_pos (by omega), w64s (x := vget d.f0 (b : Int)) (by omega) (by omega), if_pos g]
    have key : (if acc = true then some true else some (decide (vget d.f0 (b : Int) = (c : Int)))) = some (acc || decide (vget d.f0 (b : Int) = (c : Int))) := by cases acc <;> simp
    rw [key, Option.bind_some, w64s (by omega) (by omega), show (b : Int) + 1 = ((b + 1 : Nat) : Int) by omega, ih, anyB', Bool.or_assoc]
theorem rgap_l4 {d : S50} (h : VB d.f0) : ∀ (m c fuel : Nat), (c : Int) + m = kcl d.f0 → m < fuel → bosketref08_gapless_l4 2000 d fuel (c : Int) = some (allB (hasB d.f0) m c)
  | 0, c, f + 1, hc, _ => by
    rw [bosketref08_gapless_l4.eq_2, classes_eq h, Option.bind_some, if_neg (by omega), bosketref08_gapless_c0]; rfl
  | m + 1, c, f + 1, hc, hf => by
    have h1 := kc_rng h 256
    have h2 : kcl d.f0 = kc d.f0 256 := rfl
    have ih := rgap_l4 h m (c + 1) f (by omega) (by omega)
    have e := rgap_l3 h (bosketref08_gapless_l4 2000 d f) c 256 0 2000 false (by omega) (by omega)
    rw [Int.natCast_zero] at e
    rw [bosketref08_gapless_l4.eq_2, classes_eq h, Option.bind_some, if_pos (by omega), e, Bool.false_or, bosketref08_gapless_c2, allB]
    show (if (!hasB d.f0 c) = true then some false else _) = _
    cases hasB d.f0 c with
    | false => rfl
    | true =>
      rw [if_neg (by decide), bosketref08_gapless_c1, w64s (by omega) (by omega), Bool.true_and]
      exact_mod_cast ih
theorem rgap_eq {d : S50} (h : VB d.f0) : bosketref08_gapless 2000 d = some (gapB d.f0) := by
  have h1 := kc_rng h 256
  have h2 : kcl d.f0 = kc d.f0 256 := rfl
  exact rgap_l4 h (kcl d.f0).toNat 0 2000 (by omega) (by omega)
theorem gap_l1 (x : List Bool) (hx : x.length ≤ 1000) : ∀ (m i fuel : Nat), i + m = x.length → m < fuel → dfa_gapless_l1 2000 x fuel (i : Int) = some (allB (fun j => lget x (j : Int)) m i)
  | 0, i, f + 1, hi, _ => by
    rw [dfa_gapless_l1.eq_2, if_neg (by omega)]; rfl
  | m + 1, i, f + 1, hi, hf => by
    have ih := gap_l1 x hx m (i + 1) f (by omega) (by omega)
    rw [dfa_gapless_l1.eq_2, if_pos (by omega), if_pos ⟨by omega, by omega⟩, allB, w64s (by omega) (by omega)]
    cases lget x (i : Int) with
    | false => rfl
    | true => rw [if_neg (by decide), Bool.true_and]; exact_mod_cast ih
theorem lget_lsetB (l : List Bool) (i q : Int) (b : Bool) (h0 : 0 ≤ i) (h1 : i < (l.length : Int)) (hq : 0 ≤ q) : lget (lset l i b) q = if q = i then b else lget l q := by
  unfold lget lset
  rw [List.getD, List.getD, List.getElem?_set]
  by_cases e : i.toNat = q.toNat
  · rw [if_pos e, if_pos (by omega), if_pos (by omega)]; rfl
  · rw [if_neg e, if_neg (by omega)]
theorem lget_repB (N : Nat) (q : Int) : lget (List.replicate N false) q = false := by
  unfold lget
  rw [List.getD, List.getElem?_replicate]
  split <;> rfl
theorem gap_l3 {v : Vector Int 256} (h : VB v) : ∀ (m b fuel : Nat) (x : List Bool), b + m = 256 → m < fuel → x.length = (kcl v).toNat → (∀ c : Nat, lget x (c : Int) = true ↔ ∃ j : Nat, j < b ∧ vget v (j : Int) = c) →
    ∃ y : List Bool, dfa_gapless_l3 2000 v fuel x (b : Int) = dfa_gapless_c2 2000 y ∧ y.length = (kcl v).toNat ∧ ∀ c : Nat, lget y (c : Int) = hasB v c
  | 0, b, f + 1, x, hb, _, hx, hs => by
    rw [dfa_gapless_l3.eq_2, if_neg (by omega)]
    refine ⟨x, rfl, hx, fun c => ?_⟩
    rw [Bool.eq_iff_iff, hs c, hasB_iff, show b = 256 by omega]
  | m + 1, b, f + 1, x, hb, hf, hx, hs => by
    have h0 := h (b : Int)
    have h1 := kc_rng h 256
    have h2 : kcl v = kc v 256 := rfl
    have h3 := kcl_lt (v := v) (b := b) (by omega)
    have hlt : vget v (b : Int) < (x.length : Int) := by omega
    rw [dfa_gapless_l3.eq_2, if_pos (by omega), if_pos ⟨by omega, by omega⟩, if_pos ⟨h0.1, hlt⟩, w64s (by omega) (by omega)]
    have ih := gap_l3 h m (b + 1) f (lset x (vget v (b : Int)) true) (by omega) (by omega) (by rw [lset_len]; exact hx) (fun c => by
      rw [lget_lsetB x _ _ true h0.1 hlt (by omega)]
      constructor
      · intro q
        by_cases e : (c : Int) = vget v (b : Int)
        · exact ⟨b, by omega, e.symm⟩
        · rw [if_neg e] at q
          obtain ⟨j, j1, j2⟩ := (hs c).1 q
          exact ⟨j, by omega, j2⟩
      · rintro ⟨j, j1, j2⟩
        by_cases e : (c : Int) = vget v (b : Int)
        · rw [if_pos e]
        · rw [if_neg e]
          refine (hs c).2 ⟨j, ?_, j2⟩
          by_cases q : j = b
          · subst q; exact absurd j2.symm e
          · omega)
    exact_mod_cast ih
theorem gap_eq {v : Vector Int 256} (h : VB v) : dfa_gapless 2000 v (kcl v) = some (gapB v) := by
  have h1 := kc_rng h 256
  have h2 : kcl v = kc v 256 := rfl
  unfold dfa_gapless
  rw [if_pos ⟨by omega, by omega, by omega⟩]
  obtain ⟨y, y1, y2, y3⟩ := gap_l3 h 256 0 2000 (List.replicate (kcl v).toNat false) (by omega) (by omega) (by simp) (fun c => by rw [lget_repB]; simp)
  rw [Int.natCast_zero] at y1
  rw [y1, dfa_gapless_c2]
  have e := gap_l1 y (by omega) y.length 0 2000 (by omega) (by omega)
  rw [Int.natCast_zero] at e
  rw [e, gapB, y2]
  congr 1
  rw [Bool.eq_iff_iff, allB_iff, allB_iff]
  exact ⟨fun q j a b => by rw [← y3 j]; exact q j a b, fun q j a b => by rw [y3 j]; exact q j a b⟩
/-! Rows. -/
def entB (d : S50) (r : List Int) (c : Nat) : Bool := decide (-1 ≤ lget r (c : Int) ∧ lget r (c : Int) < (d.f1.length : Int))
def rowB (d : S50) (i : Nat) : Bool := decide (((lget d.f1 (i : Int)).length : Int) = kcl d.f0 ∧ -1 ≤ lget d.f2 (i : Int) ∧ lget d.f2 (i : Int) < 32768) && allB (entB d (lget d.f1 (i : Int))) (lget d.f1 (i : Int)).length 0
def rgB (d : S50) : Bool := decide (1 ≤ d.f1.length ∧ d.f2.length = d.f1.length) && gapB d.f0 && allB (rowB d) d.f1.length 0
theorem rright_l2 {d : S50} (rec11 : Int → Option Bool) (i : Nat) (hi : i < d.f1.length) (hl : (lget d.f1 (i : Int)).length ≤ 256) (hn : d.f1.length ≤ 1000) : ∀ (m c fuel : Nat), c + m = (lget d.f1 (i : Int)).length → m < fuel →
    bosketref08_Right_l2 2000 rec11 d (i : Int) fuel (c : Int) = if allB (entB d (lget d.f1 (i : Int))) m c = true then bosketref08_Right_c1 2000 rec11 (i : Int) else some false
  | 0, c, f + 1, hc, _ => by
    rw [bosketref08_Right_l2.eq_2, if_pos ⟨by omega, by omega⟩, if_neg (by omega), allB, if_pos rfl]
  | m + 1, c, f + 1, hc, hf => by
    have ih := rright_l2 rec11 i hi hl hn m (c + 1) f (by omega) (by omega)
    have g : 0 ≤ (i : Int) ∧ (i : Int) < (d.f1.length : Int) := ⟨by omega, by omega⟩
    have g2 : 0 ≤ (c : Int) ∧ (c : Int) < ((lget d.f1 (i : Int)).length : Int) := ⟨by omega, by omega⟩
    rw [bosketref08_Right_l2.eq_2, if_pos g, if_pos g2.2, if_pos g, if_pos g2, if_pos g, if_pos g2]
    have key : (if lget (lget d.f1 (i : Int)) (c : Int) < (-1 : Int) then some true else some (decide ((d.f1.length : Int) ≤ lget (lget d.f1 (i : Int)) (c : Int)))) = some (!entB d (lget d.f1 (i : Int)) c) := by
      unfold entB
      by_cases a : lget (lget d.f1 (i : Int)) (c : Int) < (-1 : Int)
      · rw [if_pos a, decide_eq_false (by omega)]; rfl
      · rw [if_neg a]
        by_cases b : (d.f1.length : Int) ≤ lget (lget d.f1 (i : Int)) (c : Int)
        · rw [decide_eq_true b, decide_eq_false (by omega)]; rfl
        · rw [decide_eq_false b, decide_eq_true (by omega)]; rfl
    rw [key, Option.bind_some, w64s (by omega) (by omega), allB]
    cases entB d (lget d.f1 (i : Int)) c with
    | false => rfl
    | true => rw [if_neg (by decide), Bool.true_and]; exact_mod_cast ih
theorem right_l2 {d : S50} (rec12 : Int → Option Bool) (i : Nat) (hi : i < d.f1.length) (hl : (lget d.f1 (i : Int)).length ≤ 256) (hn : d.f1.length ≤ 1000) : ∀ (m c fuel : Nat), c + m = (lget d.f1 (i : Int)).length → m < fuel →
    dfa_Right_l2 2000 rec12 d (i : Int) fuel (c : Int) = if allB (entB d (lget d.f1 (i : Int))) m c = true then dfa_Right_c1 2000 rec12 (i : Int) else some false
  | 0, c, f + 1, hc, _ => by
    rw [dfa_Right_l2.eq_2, if_neg (by omega), allB, if_pos rfl]
  | m + 1, c, f + 1, hc, hf => by
    have ih := right_l2 rec12 i hi hl hn m (c + 1) f (by omega) (by omega)
    have g2 : 0 ≤ (c : Int) ∧ (c : Int) < ((lget d.f1 (i : Int)).length : Int) := ⟨by omega, by omega⟩
    rw [dfa_Right_l2.eq_2, if_pos g2.2, if_pos g2]
    have key : (if lget (lget d.f1 (i : Int)) (c : Int) < (-1 : Int) then some true else some (decide ((d.f1.length : Int) ≤ lget (lget d.f1 (i : Int)) (c : Int)))) = some (!entB d (lget d.f1 (i : Int)) c) := by
      unfold entB
      by_cases a : lget (lget d.f1 (i : Int)) (c : Int) < (-1 : Int)
      · rw [if_pos a, decide_eq_false (by omega)]; rfl
      · rw [if_neg a]
        by_cases b : (d.f1.length : Int) ≤ lget (lget d.f1 (i : Int)) (c : Int)
        · rw [decide_eq_true b, decide_eq_false (by omega)]; rfl
        · rw [decide_eq_false b, decide_eq_true (by omega)]; rfl
    rw [key, Option.bind_some, w64s (by omega) (by omega), allB]
    cases entB d (lget d.f1 (i : Int)) c with
    | false => rfl
    | true => rw [if_neg (by decide), Bool.true_and]; exact_mod_cast ih
theorem row_key {d : S50} (i : Nat) (hi : i < d.f1.length) (h2 : d.f2.length = d.f1.length) : (if ((lget d.f1 (i : Int)).length : Int) ≠ kcl d.f0 then some true else if 0 ≤ (i : Int) ∧ (i : Int) < (d.f2.length : Int) then if lget d.f2 (i : Int) < (-1 : Int) then some true else if 0 ≤ (i : Int) ∧ (i : Int) < (d.f2.length : Int) then some (decide ((32768 : Int) ≤ lget d.f2 (i : Int))) else none else none) =
    some (!decide (((lget d.f1 (i : Int)).length : Int) = kcl d.f0 ∧ -1 ≤ lget d.f2 (i : Int) ∧ lget d.f2 (i : Int) < 32768)) := by
  have g : 0 ≤ (i : Int) ∧ (i : Int) < (d.f2.length : Int) := ⟨by omega, by omega⟩
  rw [if_pos g, if_pos g]
  by_cases a : ((lget d.f1 (i : Int)).length : Int) = kcl d.f0
  · rw [if_neg (by simpa using a)]
    by_cases b : lget d.f2 (i : Int) < (-1 : Int)
    · rw [if_pos b, decide_eq_false (by omega)]; rfl
    · rw [if_neg b]
      by_cases c : (32768 : Int) ≤ lget d.f2 (i : Int)
      · rw [decide_eq_true c, decide_eq_false (by omega)]; rfl
      · rw [decide_eq_false c, decide_eq_true ⟨a, by omega, by omega⟩]; rfl
  · rw [if_pos a, decide_eq_false (fun q => a q.1)]; rfl
theorem rright_l3 {d : S50} (hv : VB d.f0) (h2 : d.f2.length = d.f1.length) (hl : ∀ r ∈ d.f1, r.length ≤ 256) (hn : d.f1.length ≤ 1000) : ∀ (m i fuel : Nat), i + m = d.f1.length → m < fuel →
    bosketref08_Right_l3 2000 d fuel (i : Int) = some (allB (rowB d) m i)
  | 0, i, f + 1, hi, _ => by
    rw [bosketref08_Right_l3.eq_2, if_neg (by omega)]; rfl
  | m + 1, i, f + 1, hi, hf => by
    have hi' : i < d.f1.length := by omega
    have hr : (lget d.f1 (i : Int)).length ≤ 256 := by rw [lget_lt _ i hi']; exact hl _ (List.getElem_mem hi')
    have ih := rright_l3 hv h2 hl hn m (i + 1) f (by omega) (by omega)
    have e := rright_l2 (bosketref08_Right_l3 2000 d f) i hi' hr hn (lget d.f1 (i : Int)).length 0 2000 (by omega) (by omega)
    rw [Int.natCast_zero] at e
    rw [bosketref08_Right_l3.eq_2, if_pos (by omega), if_pos ⟨by omega, by omega⟩, classes_eq hv, Option.bind_some, row_key i hi' h2, Option.bind_some, e, allB, rowB]
    cases decide (((lget d.f1 (i : Int)).length : Int) = kcl d.f0 ∧ -1 ≤ lget d.f2 (i : Int) ∧ lget d.f2 (i : Int) < 32768) with
    | false => rfl
    | true =>
      rw [if_neg (by decide), Bool.true_and]
      cases allB (entB d (lget d.f1 (i : Int))) (lget d.f1 (i : Int)).length 0 with
      | false => rfl
      | true => rw [if_pos rfl, bosketref08_Right_c1, w64s (by omega) (by omega), Bool.true_and]; exact_mod_cast ih
theorem right_l3 {d : S50} (h2 : d.f2.length = d.f1.length) (hl : ∀ r ∈ d.f1, r.length ≤ 256) (hn : d.f1.length ≤ 1000) : ∀ (m i fuel : Nat), i + m = d.f1.length → m < fuel →
    dfa_Right_l3 2000 d (kcl d.f0) fuel (i : Int) = some (allB (rowB d) m i)
  | 0, i, f + 1, hi, _ => by
    rw [dfa_Right_l3.eq_2, if_neg (by omega)]; rfl
  | m + 1, i, f + 1, hi, hf => by
    have hi' : i < d.f1.length := by omega
    have hr : (lget d.f1 (i : Int)).length ≤ 256 := by rw [lget_lt _ i hi']; exact hl _ (List.getElem_mem hi')
    have ih := right_l3 h2 hl hn m (i + 1) f (by omega) (by omega)
    have e := right_l2 (dfa_Right_l3 2000 d (kcl d.f0) f) i hi' hr hn (lget d.f1 (i : Int)).length 0 2000 (by omega) (by omega)
    rw [Int.natCast_zero] at e
    rw [dfa_Right_l3.eq_2, if_pos (by omega), if_pos ⟨by omega, by omega⟩, row_key i hi' h2, Option.bind_some, e, allB, rowB]
    cases decide (((lget d.f1 (i : Int)).length : Int) = kcl d.f0 ∧ -1 ≤ lget d.f2 (i : Int) ∧ lget d.f2 (i : Int) < 32768) with
    | false => rfl
    | true =>
      rw [if_neg (by decide), Bool.true_and]
      cases allB (entB d (lget d.f1 (i : Int))) (lget d.f1 (i : Int)).length 0 with
      | false => rfl
      | true => rw [if_pos rfl, dfa_Right_c1, w64s (by omega) (by omega), Bool.true_and]; exact_mod_cast ih
theorem rdright_eq {d : S50} (hv : VB d.f0) (hl : ∀ r ∈ d.f1, r.length ≤ 256) (hn : d.f1.length ≤ 1000) : bosketref08_Right 2000 d = some (rgB d) := by
  unfold bosketref08_Right rgB
  by_cases a : (d.f1.length : Int) < 1
  · rw [if_pos a, Option.bind_some, if_pos rfl, decide_eq_false (by omega)]; rfl
  rw [if_neg a, if_neg (by omega)]
  by_cases b : (d.f2.length : Int) = (d.f1.length : Int)
  · rw [if_neg (by simpa using b), rgap_eq hv, Option.bind_some, Option.bind_some, decide_eq_true ⟨by omega, by omega⟩]
    cases gapB d.f0 with
    | false => rfl
    | true =>
      rw [if_neg (by decide)]
      have := rright_l3 hv (by omega) hl hn d.f1.length 0 2000 (by omega) (by omega)
      simpa using this
  · rw [if_pos b, Option.bind_some, if_pos rfl, decide_eq_false (by omega)]; rfl
theorem dright_eq {d : S50} (hv : VB d.f0) (hl : ∀ r ∈ d.f1, r.length ≤ 256) (hn : d.f1.length ≤ 1000) : dfa_Right 2000 d = some (rgB d) := by
  unfold dfa_Right rgB
  by_cases a : (d.f1.length : Int) = 0
  · rw [if_pos a, Option.bind_some, if_pos rfl, decide_eq_false (by omega)]; rfl
  rw [if_neg a, if_neg (by omega)]
  by_cases b : (d.f2.length : Int) = (d.f1.length : Int)
  · rw [decide_eq_false (by simpa using b), Option.bind_some, if_neg (by decide), count_eq hv, Option.bind_some, gap_eq hv, Option.bind_some, decide_eq_true ⟨by omega, by omega⟩]
    cases gapB d.f0 with
    | false => rfl
    | true =>
      rw [if_neg (by decide)]
      have := right_l3 (by omega) hl hn d.f1.length 0 2000 (by omega) (by omega)
      simpa using this
  · rw [decide_eq_true b, Option.bind_some, if_pos rfl, decide_eq_false (by omega)]; rfl
/-- A machine that may be, not too large. -/
structure Dr (d : S50) : Prop where
  n1 : 1 ≤ d.f1.length
  n2 : d.f1.length ≤ 1000
  ml : d.f2.length = d.f1.length
  vb : VB d.f0
  gap : ∀ c : Nat, (c : Int) < kcl d.f0 → ∃ b : Nat, b < 256 ∧ vget d.f0 (b : Int) = c
  row : ∀ r ∈ d.f1, (r.length : Int) = kcl d.f0
  ent : ∀ r ∈ d.f1, ∀ x ∈ r, -1 ≤ x ∧ x < (d.f1.length : Int)
  mark : ∀ m ∈ d.f2, -1 ≤ m ∧ m < 32768
theorem lget_mem {α : Type} [Inhabited α] {l : List α} {x : α} (h : x ∈ l) : ∃ j : Nat, j < l.length ∧ lget l (j : Int) = x := by
  obtain ⟨j, hj, rfl⟩ := List.getElem_of_mem h
  exact ⟨j, hj, lget_lt l j hj⟩
theorem mem_lget {α : Type} [Inhabited α] {l : List α} {i : Int} (h0 : 0 ≤ i) (h1 : i < (l.length : Int)) : lget l i ∈ l := by
  have : lget l i = l[i.toNat]'(by omega) := by
    have := lget_lt l i.toNat (by omega)
    rwa [Int.toNat_of_nonneg h0] at this
  rw [this]; exact List.getElem_mem _
theorem rgB_iff {d : S50} (hv : VB d.f0) (hn : d.f1.length ≤ 1000) : rgB d = true ↔ Dr d := by
  have hk := kc_rng hv 256
  have hk2 : kcl d.f0 = kc d.f0 256 := rfl
  simp only [rgB, Bool.and_eq_true, decide_eq_true_eq, gapB, allB_iff, rowB, entB]
  constructor
  · rintro ⟨⟨⟨h1, h2⟩, h3⟩, h4⟩
    refine ⟨h1, hn, h2, hv, fun c hc => (hasB_iff _ c).1 (h3 c (by omega) (by omega)), fun r hr => ?_, fun r hr x hx => ?_, fun m hm => ?_⟩
    · obtain ⟨j, hj, rfl⟩ := lget_mem hr
      exact (h4 j (by omega) (by omega)).1.1
    · obtain ⟨j, hj, rfl⟩ := lget_mem hr
      obtain ⟨c, hc, rfl⟩ := lget_mem hx
      exact (h4 j (by omega) (by omega)).2 c (by omega) (by omega)
    · obtain ⟨j, hj, rfl⟩ := lget_mem hm
      exact (h4 j (by omega) (by omega)).1.2
  · intro h
    refine ⟨⟨⟨h.n1, h.ml⟩, fun j _ hj => (hasB_iff _ j).2 (h.gap j (by omega))⟩, fun j _ hj => ?_⟩
    have hr : lget d.f1 (j : Int) ∈ d.f1 := mem_lget (by omega) (by omega)
    have hm := h.ml
    exact ⟨⟨h.row _ hr, h.mark _ (mem_lget (by omega) (by omega))⟩, fun c _ hc => h.ent _ hr _ (mem_lget (by omega) (by omega))⟩
theorem Dr.rg {d : S50} (h : Dr d) : rgB d = true := (rgB_iff h.vb h.n2).2 h
theorem Dr.row256 {d : S50} (h : Dr d) : ∀ r ∈ d.f1, r.length ≤ 256 := fun r hr => by
  have h1 := kc_rng h.vb 256
  have h2 : kcl d.f0 = kc d.f0 256 := rfl
  have := h.row r hr
  omega
theorem Dr.right {d : S50} (h : Dr d) : dfa_Right 2000 d = some true := by rw [dright_eq h.vb h.row256 h.n2, h.rg]
theorem Dr.rowk {d : S50} (h : Dr d) {i : Int} (h0 : 0 ≤ i) (h1 : i < (d.f1.length : Int)) : ((lget d.f1 i).length : Int) = kcl d.f0 := h.row _ (mem_lget h0 h1)
theorem Dr.entk {d : S50} (h : Dr d) {i c : Int} (h0 : 0 ≤ i) (h1 : i < (d.f1.length : Int)) (c0 : 0 ≤ c) (c1 : c < ((lget d.f1 i).length : Int)) : -1 ≤ lget (lget d.f1 i) c ∧ lget (lget d.f1 i) c < (d.f1.length : Int) := h.ent _ (mem_lget h0 h1) _ (mem_lget c0 c1)
end Go.Avl.T3
/- Machines in one state: which states are reached, from which a mark is reached. -/
namespace Go.Avl.T3
open Go Go.RowKit Go.Proofs Go.Avl
set_option linter.all false
set_option maxRecDepth 10000

abbrev rw' (d : S50) (p : Int) : List Int := lget d.f1 p
/-- Reached from a state. -/
inductive DR (d : S50) (s : Int) : Int → Prop
  | refl : DR d s s
  | step {p : Int} {c : Nat} : DR d s p → (c : Int) < ((rw' d p).length : Int) → 0 ≤ lget (rw' d p) (c : Int) → DR d s (lget (rw' d p) (c : Int))
theorem DR.in {d : S50} (h : Dr d) {s q : Int} (hs : 0 ≤ s ∧ s < (d.f1.length : Int)) (k : DR d s q) : 0 ≤ q ∧ q < (d.f1.length : Int) := by
  induction k with
  | refl => exact hs
  | step _ hc h0 ih => exact ⟨h0, (h.entk ih.1 ih.2 (by omega) hc).2⟩
theorem DR.trans {d : S50} {s p q : Int} (h : DR d s p) (k : DR d p q) : DR d s q := by
  induction k with
  | refl => exact h
  | step _ hc h0 ih => exact .step ih hc h0
/-! Rows of truths. -/
theorem lget_iff (x : List Bool) (q : Int) : lget x q = true ↔ x[q.toNat]? = some true := by
  unfold lget
  rw [List.getD]
  cases x[q.toNat]? with
  | none => simp
  | some b => cases b <;> simp
theorem le_cnt : ∀ (x y : List Bool), x.length = y.length → (∀ j : Nat, x[j]? = some true → y[j]? = some true) → x = y ∨ cnt x < cnt y
  | [], [], _, _ => .inl rfl
  | a :: x, b :: y, hl, h => by
    have ih := le_cnt x y (by simpa using hl) (fun j hj => by have := h (j + 1) (by simpa using hj); simpa using this)
    have h0 : a = true → b = true := fun e => by have := h 0 (by simp [e]); simpa using this
    simp only [cnt, List.count_cons] at ih ⊢
    rcases ih with rfl | ih
    · cases a <;> cases b <;> simp at h0 ⊢
    · right
      cases a <;> cases b <;> simp at h0 ⊢ <;> omega
theorem lext {x y : List Bool} (hl : x.length = y.length) (h : ∀ q : Int, 0 ≤ q → q < (x.length : Int) → (lget x q = true ↔ lget y q = true)) : x = y := by
  apply List.ext_getElem hl
  intro j h1 h2
  have := h (j : Int) (by omega) (by omega)
  rw [lget_lt x j h1, lget_lt y j h2] at this
  rw [Bool.eq_iff_iff]; exact this
/-- One row within another one. -/
def LE (x y : List Bool) : Prop := ∀ q : Int, 0 ≤ q → lget x q = true → lget y q = true
theorem LE.cnt {x y : List Bool} (h : LE x y) (hl : x.length = y.length) : x = y ∨ cnt x < cnt y :=
  le_cnt x y hl fun j hj => by
    have := h (j : Int) (by omega) ((lget_iff _ _).2 (by simpa using hj))
    have := (lget_iff _ _).1 this
    simpa using this
theorem LE.refl (x : List Bool) : LE x x := fun _ _ h => h
theorem LE.trans {x y z : List Bool} (h : LE x y) (k : LE y z) : LE x z := fun q h0 h1 => k q h0 (h q h0 h1)
theorem LE.set {x : List Bool} {i : Int} (h0 : 0 ≤ i) (h1 : i < (x.length : Int)) : LE x (lset x i true) := fun q hq h => by
  rw [lget_lsetB x i q true h0 h1 hq]
  split
  · rfl
  · exact h
/-! The program's walk: an open list. -/
def ps1 (s : List Bool × List Int) (q : Int) : List Bool × List Int := if 0 ≤ q ∧ lget s.1 q = false then (lset s.1 q true, s.2 ++ [q]) else s
def ps (l : List Int) (s : List Bool × List Int) : List Bool × List Int := l.foldl ps1 s
theorem cnt_le_len {x : List Bool} {n : Nat} (h : x.length = n) : cnt x ≤ n := h ▸ cnt_le x
/-- The states that are reached from one. -/
def RS (d : S50) (s : Int) (R : List Bool) : Prop := R.length = d.f1.length ∧ ∀ q, 0 ≤ q → q < (d.f1.length : Int) → (lget R q = true ↔ (0 ≤ s ∧ s < (d.f1.length : Int)) ∧ DR d s q)
theorem RS.uniq {d : S50} {s : Int} {R R' : List Bool} (h : RS d s R) (h' : RS d s R') : R = R' :=
  lext (h.1.trans h'.1.symm) fun q h0 h1 => by rw [h.1] at h1; rw [h.2 q h0 h1, h'.2 q h0 h1]
theorem one_iff {N : Nat} {s : Int} (hs : 0 ≤ s ∧ s < (N : Int)) {q : Int} (hq : 0 ≤ q) : lget (lset (List.replicate N false) s true) q = true ↔ q = s := by
  rw [lget_lsetB _ _ _ true hs.1 (by simp; omega) hq]
  by_cases e : q = s
  · simp [e]
  · rw [if_neg e, lget_repB]; simp [e]
/-! The document's walk: rounds. -/
def sL (l : List Int) (x : List Bool) : List Bool := l.foldl (fun x q => if 0 ≤ q then lset x q true else x) x
theorem sL_len : ∀ (l : List Int) (x : List Bool), (sL l x).length = x.length
  | [], _ => rfl
  | q :: l, x => by
    show (sL l (if 0 ≤ q then lset x q true else x)).length = _
    rw [sL_len l]
    split
    · exact lset_len _ _ _
    · rfl
theorem sL_iff {N : Int} {q : Int} (hq : 0 ≤ q) : ∀ (l : List Int) (x : List Bool), (∀ q ∈ l, q < N) → (x.length : Int) = N → (lget (sL l x) q = true ↔ lget x q = true ∨ q ∈ l)
  | [], x, _, _ => by simp [sL]
  | p :: l, x, h, hx => by
    have hp := h p (by simp)
    have ih := sL_iff hq l (if 0 ≤ p then lset x p true else x) (fun q hq => h q (by simp [hq])) (by split <;> simp [lset_len, hx])
    show lget (sL l (if 0 ≤ p then lset x p true else x)) q = true ↔ _
    rw [ih]
    by_cases a : 0 ≤ p
    · rw [if_pos a, lget_lsetB x p q true a (by omega) hq]
      by_cases e : q = p
      · simp [e]
      · rw [if_neg e]; simp [e]
    · rw [if_neg a]
      have : q ≠ p := by omega
      simp [this]
def rp (d : S50) (i : Nat) (x : List Bool) : List Bool := if lget x (i : Int) = true then sL (rw' d i) x else x
def rnd (d : S50) : Nat → Nat → List Bool → List Bool
  | 0, _, x => x
  | m + 1, i, x => rnd d m (i + 1) (rp d i x)
theorem rp_len (d : S50) (i : Nat) (x : List Bool) : (rp d i x).length = x.length := by
  unfold rp; split
  · exact sL_len _ _
  · rfl
theorem rnd_len (d : S50) : ∀ (m i : Nat) (x : List Bool), (rnd d m i x).length = x.length
  | 0, _, _ => rfl
  | m + 1, i, x => by rw [rnd, rnd_len d m, rp_len]
theorem row_lt {d : S50} (h : Dr d) {p : Int} (h0 : 0 ≤ p) (h1 : p < (d.f1.length : Int)) : ∀ q ∈ rw' d p, q < (d.f1.length : Int) := fun q hq => (h.ent _ (mem_lget h0 h1) q hq).2
theorem rp_le {d : S50} (h : Dr d) {i : Nat} (hi : i < d.f1.length) {x : List Bool} (hx : x.length = d.f1.length) : LE x (rp d i x) := by
  unfold rp; split
  · intro q hq hg
    exact (sL_iff (N := (d.f1.length : Int)) hq _ _ (row_lt h (by omega) (by omega)) (by rw [hx])).2 (.inl hg)
  · exact LE.refl x
theorem rnd_le {d : S50} (h : Dr d) : ∀ (m i : Nat) (x : List Bool), i + m = d.f1.length → x.length = d.f1.length → LE x (rnd d m i x)
  | 0, _, x, _, _ => LE.refl x
  | m + 1, i, x, hi, hx => by
    rw [rnd]
    exact (rp_le h (by omega) hx).trans (rnd_le h m (i + 1) _ (by omega) (by rw [rp_len]; exact hx))
theorem LE.antisymm {x y : List Bool} (hl : x.length = y.length) (h : LE x y) (k : LE y x) : x = y := lext hl fun q h0 h1 => ⟨h q h0, k q h0⟩
theorem rnd_fix {d : S50} (h : Dr d) : ∀ (m i : Nat) (x : List Bool), i + m = d.f1.length → x.length = d.f1.length → rnd d m i x = x → ∀ j : Nat, i ≤ j → j < d.f1.length → lget x (j : Int) = true → ∀ q ∈ rw' d (j : Int), 0 ≤ q → lget x q = true
  | 0, i, x, hi, hx, _, j, h1, h2, _, q, hq, h0 => by omega
  | m + 1, i, x, hi, hx, e, j, h1, h2, hg, q, hq, h0 => by
    rw [rnd] at e
    have l1 := rp_le h (i := i) (by omega) hx
    have l2 := rnd_le h m (i + 1) (rp d i x) (by omega) (by rw [rp_len]; exact hx)
    rw [e] at l2
    have ex : rp d i x = x := LE.antisymm (rp_len _ _ _) l2 l1
    by_cases a : j = i
    · subst a
      unfold rp at ex
      rw [if_pos hg] at ex
      rw [← ex]
      exact (sL_iff (N := (d.f1.length : Int)) h0 _ _ (row_lt h (by omega) (by omega)) (by rw [hx])).2 (.inr hq)
    · rw [ex] at e
      exact rnd_fix h m (i + 1) x (by omega) hx e j (by omega) h2 hg q hq h0
def its (d : S50) : Nat → List Bool → List Bool
  | 0, x => x
  | k + 1, x => its d k (rnd d d.f1.length 0 x)
theorem its_len (d : S50) : ∀ (k : Nat) (x : List Bool), (its d k x).length = x.length
  | 0, _ => rfl
  | k + 1, x => by rw [its, its_len d k, rnd_len]
theorem its_fix {d : S50} : ∀ (k : Nat) (x : List Bool), rnd d d.f1.length 0 x = x → its d k x = x
  | 0, _, _ => rfl
  | k + 1, x, h => by rw [its, h, its_fix k x h]
theorem its_done {d : S50} (h : Dr d) : ∀ (k : Nat) (x : List Bool), x.length = d.f1.length → d.f1.length - cnt x ≤ k → rnd d d.f1.length 0 (its d k x) = its d k x
  | 0, x, hx, hk => by
    have l := rnd_le h d.f1.length 0 x (by omega) hx
    have hl := rnd_len d d.f1.length 0 x
    rcases LE.cnt l hl.symm with e | e
    · exact e.symm
    · have := cnt_le_len (hl.trans hx); omega
  | k + 1, x, hx, hk => by
    have l := rnd_le h d.f1.length 0 x (by omega) hx
    have hl := rnd_len d d.f1.length 0 x
    rcases LE.cnt l hl.symm with e | e
    · rw [its_fix (k + 1) x e.symm]; exact e.symm
    · rw [its]
      have := cnt_le_len (hl.trans hx)
      exact its_done h k _ (hl.trans hx) (by omega)
theorem rnd_snd {d : S50} (h : Dr d) {s : Int} (hs : 0 ≤ s ∧ s < (d.f1.length : Int)) : ∀ (m i : Nat) (x : List Bool), i + m = d.f1.length → x.length = d.f1.length → (∀ q, 0 ≤ q → lget x q = true → DR d s q) → ∀ q, 0 ≤ q → lget (rnd d m i x) q = true → DR d s q
  | 0, _, x, _, _, hq => hq
  | m + 1, i, x, hi, hx, hq => by
    rw [rnd]
    refine rnd_snd h hs m (i + 1) _ (by omega) (by rw [rp_len]; exact hx) fun q h0 hg => ?_
    unfold rp at hg
    split at hg
    · rename_i c
      rcases (sL_iff (N := (d.f1.length : Int)) h0 _ _ (row_lt h (by omega) (by omega)) (by rw [hx])).1 hg with k | k
      · exact hq q h0 k
      · obtain ⟨c', hc, rfl⟩ := lget_mem k
        exact .step (hq _ (by omega) c) (by omega) h0
    · exact hq q h0 hg
theorem its_snd {d : S50} (h : Dr d) {s : Int} (hs : 0 ≤ s ∧ s < (d.f1.length : Int)) : ∀ (k : Nat) (x : List Bool), x.length = d.f1.length → (∀ q, 0 ≤ q → lget x q = true → DR d s q) → ∀ q, 0 ≤ q → lget (its d k x) q = true → DR d s q
  | 0, x, _, hq => hq
  | k + 1, x, hx, hq => by
    rw [its]
    exact its_snd h hs k _ (by rw [rnd_len]; exact hx) (rnd_snd h hs d.f1.length 0 x (by omega) hx hq)
theorem its_le {d : S50} (h : Dr d) : ∀ (k : Nat) (x : List Bool), x.length = d.f1.length → LE x (its d k x)
  | 0, x, _ => LE.refl x
  | k + 1, x, hx => by
    rw [its]
    exact (rnd_le h d.f1.length 0 x (by omega) hx).trans (its_le h k _ (by rw [rnd_len]; exact hx))
theorem rreach_l4 {d : S50} (h : Dr d) (rec20 : List Bool → Int → Option (List Bool)) (i : Nat) (hi : i < d.f1.length) : ∀ (m c fuel : Nat) (x : List Bool), c + m = (rw' d i).length → m < fuel → x.length = d.f1.length → lget x (i : Int) = true →
    bosketref08_Reached_l4 2000 rec20 d (i : Int) fuel x (c : Int) = bosketref08_Reached_c2 2000 rec20 (i : Int) (sL ((rw' d i).drop c) x)
  | 0, c, f + 1, x, hc, _, hx, hg => by
    have g : 0 ≤ (i : Int) ∧ (i : Int) < (x.length : Int) := ⟨by omega, by omega⟩
    have hcn : ¬ (c : Int) < ((lget d.f1 (i : Int)).length : Int) := by
      have : ¬ (c : Int) < ((rw' d i).length : Int) := by omega
      exact this
    rw [bosketref08_Reached_l4.eq_2, if_pos g, if_pos hg, if_pos ⟨by omega, by omega⟩, Option.bind_some, if_neg (by simpa using hcn), List.drop_of_length_le (by omega)]; rfl
  | m + 1, c, f + 1, x, hc, hf, hx, hg => by
    have hc' : c < (rw' d i).length := by omega
    have hcI : (c : Int) < ((lget d.f1 (i : Int)).length : Int) := by
      have : (c : Int) < ((rw' d i).length : Int) := by omega
      exact this
    have he := h.entk (i := (i : Int)) (by omega) (by omega) (c := (c : Int)) (by omega) hcI
    have h256 : (rw' d i).length ≤ 256 := h.row256 _ (mem_lget (l := d.f1) (i := (i : Int)) (by omega) (by omega))
    have hn := h.n2
    have g : 0 ≤ (i : Int) ∧ (i : Int) < (x.length : Int) := ⟨by omega, by omega⟩
    have g1 : 0 ≤ (i : Int) ∧ (i : Int) < (d.f1.length : Int) := ⟨by omega, by omega⟩
    have ge : lget (lget d.f1 (i : Int)) (c : Int) = (rw' d i)[c] := lget_lt (rw' d i) c hc'
    rw [bosketref08_Reached_l4.eq_2, if_pos g, if_pos hg, if_pos g1, Option.bind_some, if_pos (by simpa using hcI), if_pos g1, if_pos ⟨by omega, hcI⟩, List.drop_eq_getElem_cons hc']
    show _ = bosketref08_Reached_c2 2000 rec20 (i : Int) (sL ((rw' d i).drop (c + 1)) (if 0 ≤ (rw' d i)[c] then lset x (rw' d i)[c] true else x))
    rw [← ge]
    generalize lget (lget d.f1 (i : Int)) (c : Int) = q at he
    by_cases a : 0 ≤ q
    · rw [if_pos a, if_pos ⟨a, by omega⟩, if_pos a, bosketref08_Reached_c3, w64s (by omega) (by omega)]
      have ih := rreach_l4 h rec20 i hi m (c + 1) f (lset x q true) (by omega) (by omega) (by rw [lset_len]; exact hx) (LE.set a (by omega) _ (by omega) hg)
      exact_mod_cast ih
    · rw [if_neg a, if_neg a, bosketref08_Reached_c3, w64s (by omega) (by omega)]
      have ih := rreach_l4 h rec20 i hi m (c + 1) f x (by omega) (by omega) hx hg
      exact_mod_cast ih
theorem rreach_l5 {d : S50} (h : Dr d) (rec14 : List Bool → Int → Option (List Bool)) (x13 : Int) : ∀ (m i fuel : Nat) (x : List Bool), i + m = d.f1.length → m < fuel → x.length = d.f1.length →
    bosketref08_Reached_l5 2000 rec14 d x13 fuel x (i : Int) = bosketref08_Reached_c1 2000 rec14 x13 (rnd d m i x)
  | 0, i, f + 1, x, hi, _, hx => by
    rw [bosketref08_Reached_l5.eq_2, if_neg (by omega)]; rfl
  | m + 1, i, f + 1, x, hi, hf, hx => by
    have hn := h.n2
    have ih := fun y hy => rreach_l5 h rec14 x13 m (i + 1) f y (by omega) (by omega) hy
    rw [bosketref08_Reached_l5.eq_2, if_pos (by omega), rnd]
    unfold rp
    by_cases a : lget x (i : Int) = true
    · have h256 : (rw' d i).length ≤ 256 := h.row256 _ (mem_lget (l := d.f1) (i := (i : Int)) (by omega) (by omega))
      have e := rreach_l4 h (bosketref08_Reached_l5 2000 rec14 d x13 f) i (by omega) (rw' d i).length 0 2000 x (by omega) (by omega) hx a
      rw [Int.natCast_zero, List.drop_zero] at e
      rw [e, if_pos a, bosketref08_Reached_c2, w64s (by omega) (by omega)]
      exact_mod_cast ih _ (by rw [sL_len]; exact hx)
    · rw [if_neg a, bosketref08_Reached_l4.eq_2, if_pos ⟨by omega, by omega⟩, if_neg a, Option.bind_some, if_neg (by decide), bosketref08_Reached_c2, w64s (by omega) (by omega)]
      exact_mod_cast ih x hx
theorem rreach_l6 {d : S50} (h : Dr d) : ∀ (m k fuel : Nat) (x : List Bool), k + m = d.f1.length → m < fuel → x.length = d.f1.length → bosketref08_Reached_l6 2000 d fuel x (k : Int) = some (its d m x)
  | 0, k, f + 1, x, hi, _, hx => by
    rw [bosketref08_Reached_l6.eq_2, if_neg (by omega)]; rfl
  | m + 1, k, f + 1, x, hi, hf, hx => by
    have hn := h.n2
    have ih := rreach_l6 h m (k + 1) f (rnd d d.f1.length 0 x) (by omega) (by omega) (by rw [rnd_len]; exact hx)
    have e := rreach_l5 h (bosketref08_Reached_l6 2000 d f) (k : Int) d.f1.length 0 2000 x (by omega) (by omega) hx
    rw [Int.natCast_zero] at e
    rw [bosketref08_Reached_l6.eq_2, if_pos (by omega), e, bosketref08_Reached_c1, w64s (by omega) (by omega), its]
    exact_mod_cast ih
theorem rreached_eq {d : S50} (h : Dr d) (s : Int) : ∃ R, bosketref08_Reached 2000 d s = some R ∧ RS d s R := by
  have hn := h.n2
  unfold bosketref08_Reached
  rw [if_pos ⟨by omega, by omega, by omega⟩, Int.toNat_natCast]
  by_cases a : s < 0
  · rw [if_pos a, Option.bind_some, if_pos rfl]
    exact ⟨_, rfl, by simp, fun q h0 h1 => by rw [lget_repB]; simp; omega⟩
  by_cases b : (d.f1.length : Int) ≤ s
  · rw [if_neg a, Option.bind_some, if_pos (by simpa using b)]
    exact ⟨_, rfl, by simp, fun q h0 h1 => by rw [lget_repB]; simp; omega⟩
  have hs : 0 ≤ s ∧ s < (d.f1.length : Int) := ⟨by omega, by omega⟩
  have hx : (lset (List.replicate d.f1.length false) s true).length = d.f1.length := by rw [lset_len, List.length_replicate]
  rw [if_neg a, Option.bind_some, if_neg (by simpa using b), if_pos ⟨by omega, by simp; omega⟩]
  have e := rreach_l6 h d.f1.length 0 2000 _ (by omega) (by omega) hx
  rw [Int.natCast_zero] at e
  refine ⟨_, e, by rw [its_len]; exact hx, fun q h0 h1 => ⟨fun hg => ⟨hs, its_snd h hs d.f1.length _ hx (fun q h0 hg => by rw [(one_iff hs h0).1 hg]; exact .refl) q h0 hg⟩, fun ⟨_, k⟩ => ?_⟩⟩
  have hd := its_done h d.f1.length _ hx (by omega)
  have hfix := rnd_fix h d.f1.length 0 _ (by omega) (by rw [its_len]; exact hx) hd
  clear h0 h1
  induction k with
  | refl => exact its_le h d.f1.length _ hx s hs.1 ((one_iff hs hs.1).2 rfl)
  | @step p c k hc h0 ih =>
    have hp := k.in h hs
    obtain ⟨j, rfl⟩ := Int.eq_ofNat_of_zero_le hp.1
    exact hfix j (by omega) (by omega) (ih ⟨hs, k⟩) _ (mem_lget (by omega) hc) h0
end Go.Avl.T3
/- Machines in one state: alive, trimmed, alike. -/
namespace Go.Avl.T3
open Go Go.RowKit Go.Proofs Go.Avl
set_option linter.all false
set_option maxRecDepth 10000

/-- From a state some mark is reached. -/
def AL (d : S50) (i : Int) : Prop := ∃ q, DR d i q ∧ 0 ≤ mk d q
def AS (d : S50) (A : List Bool) : Prop := A.length = d.f1.length ∧ ∀ q, 0 ≤ q → q < (d.f1.length : Int) → (lget A q = true ↔ AL d q)
theorem AS.uniq {d : S50} {R R' : List Bool} (h : AS d R) (h' : AS d R') : R = R' :=
  lext (h.1.trans h'.1.symm) fun q h0 h1 => by rw [h.1] at h1; rw [h.2 q h0 h1, h'.2 q h0 h1]
/-! The program's walk. -/
def hit (d : S50) (x : List Bool) (r : List Int) : Bool := r.any fun q => decide (0 ≤ q) && lget x q
def ap (d : S50) (i : Nat) (s : List Bool × Bool) : List Bool × Bool := if lget s.1 (i : Int) = true then s else if hit d s.1 (rw' d i) = true then (lset s.1 (i : Int) true, true) else s
def aps (d : S50) : Nat → Nat → List Bool × Bool → List Bool × Bool
  | 0, _, s => s
  | m + 1, i, s => aps d m (i + 1) (ap d i s)
theorem ap_len (d : S50) (i : Nat) (s : List Bool × Bool) : (ap d i s).1.length = s.1.length := by
  unfold ap; split
  · rfl
  · split
    · exact lset_len _ _ _
    · rfl
theorem aps_len (d : S50) : ∀ (m i : Nat) (s : List Bool × Bool), (aps d m i s).1.length = s.1.length
  | 0, _, _ => rfl
  | m + 1, i, s => by rw [aps, aps_len d m, ap_len]
theorem ap_cnt {d : S50} {i : Nat} (hi : i < d.f1.length) {s : List Bool × Bool} (hs : s.1.length = d.f1.length) : ap d i s = s ∨ ((ap d i s).2 = true ∧ cnt (ap d i s).1 = cnt s.1 + 1) := by
  unfold ap
  split
  · exact .inl rfl
  · rename_i a
    split
    · refine .inr ⟨rfl, ?_⟩
      have hi' : i < s.1.length := by omega
      refine cnt_set s.1 i hi' ?_
      have : lget s.1 (i : Int) = false := by simpa using a
      rw [lget_lt _ i hi'] at this
      rw [List.getElem?_eq_getElem hi', this]
    · exact .inl rfl
theorem aps_cnt {d : S50} : ∀ (m i : Nat) (s : List Bool × Bool), i + m = d.f1.length → s.1.length = d.f1.length → aps d m i s = s ∨ ((aps d m i s).2 = true ∧ cnt s.1 < cnt (aps d m i s).1)
  | 0, _, _, _, _ => .inl rfl
  | m + 1, i, s, hi, hs => by
    rw [aps]
    have ih := aps_cnt (d := d) m (i + 1) (ap d i s) (by omega) (by rw [ap_len]; exact hs)
    rcases ap_cnt (d := d) (i := i) (by omega) hs with q | ⟨q1, q2⟩
    · rw [q] at ih ⊢; exact ih
    · rcases ih with r | ⟨r1, r2⟩
      · rw [r]; exact .inr ⟨q1, by omega⟩
      · exact .inr ⟨r1, by omega⟩
theorem aps_flag (d : S50) : ∀ (m i : Nat) (s : List Bool × Bool), s.2 = true → (aps d m i s).2 = true
  | 0, _, _, h => h
  | m + 1, i, s, h => by
    rw [aps]
    refine aps_flag d m (i + 1) _ ?_
    unfold ap; split
    · exact h
    · split
      · rfl
      · exact h
theorem aps_closed (d : S50) : ∀ (m i : Nat) (x : List Bool), (aps d m i (x, false)).2 = false → (aps d m i (x, false)).1 = x ∧ ∀ j : Nat, i ≤ j → j < i + m → hit d x (rw' d j) = true → lget x (j : Int) = true
  | 0, i, x, _ => ⟨rfl, fun j h1 h2 => by omega⟩
  | m + 1, i, x, h => by
    rw [aps] at h ⊢
    have hs : ap d i (x, false) = (x, false) ∧ (hit d x (rw' d i) = true → lget x (i : Int) = true) := by
      by_cases c : lget x (i : Int) = true
      · exact ⟨by unfold ap; rw [if_pos c], fun _ => c⟩
      · by_cases e : hit d x (rw' d i) = true
        · have hf : (ap d i (x, false)).2 = true := by unfold ap; rw [if_neg c, if_pos e]
          rw [aps_flag d m (i + 1) _ hf] at h; cases h
        · exact ⟨by unfold ap; rw [if_neg c, if_neg e], fun q => absurd q e⟩
    rw [hs.1] at h ⊢
    obtain ⟨k1, k2⟩ := aps_closed d m (i + 1) x h
    refine ⟨k1, fun j h1 h2 h3 => ?_⟩
    by_cases e : j = i
    · subst e; exact hs.2 h3
    · exact k2 j (by omega) (by omega) h3
theorem hit_iff {d : S50} (h : Dr d) {x : List Bool} {i : Nat} (hi : i < d.f1.length) : hit d x (rw' d i) = true ↔ ∃ c : Nat, (c : Int) < ((rw' d i).length : Int) ∧ 0 ≤ lget (rw' d i) (c : Int) ∧ lget x (lget (rw' d i) (c : Int)) = true := by
  unfold hit
  rw [List.any_eq_true]
  constructor
  · rintro ⟨q, hq, hh⟩
    simp only [Bool.and_eq_true, decide_eq_true_eq] at hh
    obtain ⟨c, hc, rfl⟩ := lget_mem hq
    exact ⟨c, by omega, hh.1, hh.2⟩
  · rintro ⟨c, hc, h0, hg⟩
    exact ⟨_, mem_lget (by omega) hc, by simp [h0, hg]⟩
theorem ap_snd {d : S50} (h : Dr d) {i : Nat} (hi : i < d.f1.length) {s : List Bool × Bool} (hs : s.1.length = d.f1.length) (hq : ∀ q, 0 ≤ q → lget s.1 q = true → AL d q) : ∀ q, 0 ≤ q → lget (ap d i s).1 q = true → AL d q := by
  intro q h0 hg
  unfold ap at hg
  split at hg
  · exact hq q h0 hg
  · split at hg
    · rename_i c
      have hg' : lget (lset s.1 (i : Int) true) q = true := hg
      rw [lget_lsetB s.1 i q true (by omega) (by omega) h0] at hg'
      by_cases e : q = (i : Int)
      · subst e
        obtain ⟨c, hc, k0, kg⟩ := (hit_iff h hi).1 c
        obtain ⟨r, r1, r2⟩ := hq _ k0 kg
        exact ⟨r, (DR.step .refl hc k0).trans r1, r2⟩
      · rw [if_neg e] at hg'; exact hq q h0 hg'
    · exact hq q h0 hg
theorem aps_snd {d : S50} (h : Dr d) : ∀ (m i : Nat) (s : List Bool × Bool), i + m = d.f1.length → s.1.length = d.f1.length → (∀ q, 0 ≤ q → lget s.1 q = true → AL d q) → ∀ q, 0 ≤ q → lget (aps d m i s).1 q = true → AL d q
  | 0, _, _, _, _, hq => hq
  | m + 1, i, s, hi, hs, hq => by
    rw [aps]
    exact aps_snd h m (i + 1) _ (by omega) (by rw [ap_len]; exact hs) (ap_snd h (by omega) hs hq)
theorem aps_le {d : S50} : ∀ (m i : Nat) (s : List Bool × Bool), i + m = d.f1.length → s.1.length = d.f1.length → LE s.1 (aps d m i s).1
  | 0, _, s, _, _ => LE.refl _
  | m + 1, i, s, hi, hs => by
    rw [aps]
    refine LE.trans ?_ (aps_le m (i + 1) _ (by omega) (by rw [ap_len]; exact hs))
    unfold ap; split
    · exact LE.refl _
    · split
      · exact LE.set (by omega) (by omega)
      · exact LE.refl _
theorem alive_l2 {d : S50} (h : Dr d) (rec15 : List Bool → Bool → Int → Option (List Bool)) (x : List Bool) (b : Bool) (i : Nat) (hi : i < d.f1.length) (hx : x.length = d.f1.length) : ∀ (m c fuel : Nat), c + m = (rw' d i).length → m < fuel →
    dfa_Alive_l2 2000 rec15 d x b (i : Int) fuel (c : Int) = if hit d x ((rw' d i).drop c) = true then dfa_Alive_c1 2000 rec15 (i : Int) (lset x (i : Int) true) true else dfa_Alive_c1 2000 rec15 (i : Int) x b
  | 0, c, f + 1, hc, _ => by
    have hcn : ¬ (c : Int) < ((lget d.f1 (i : Int)).length : Int) := by
      have : ¬ (c : Int) < ((rw' d i).length : Int) := by omega
      exact this
    rw [dfa_Alive_l2.eq_2, if_neg hcn, List.drop_of_length_le (by omega)]; rfl
  | m + 1, c, f + 1, hc, hf => by
    have hc' : c < (rw' d i).length := by omega
    have hcI : (c : Int) < ((lget d.f1 (i : Int)).length : Int) := by
      have : (c : Int) < ((rw' d i).length : Int) := by omega
      exact this
    have he := h.entk (i := (i : Int)) (by omega) (by omega) (c := (c : Int)) (by omega) hcI
    have h256 : (rw' d i).length ≤ 256 := h.row256 _ (mem_lget (l := d.f1) (i := (i : Int)) (by omega) (by omega))
    have ge : lget (lget d.f1 (i : Int)) (c : Int) = (rw' d i)[c] := lget_lt (rw' d i) c hc'
    have ih := alive_l2 h rec15 x b i hi hx m (c + 1) f (by omega) (by omega)
    rw [dfa_Alive_l2.eq_2, if_pos hcI, if_pos ⟨by omega, hcI⟩, List.drop_eq_getElem_cons hc']
    show _ = if ((decide (0 ≤ (rw' d i)[c]) && lget x (rw' d i)[c]) || hit d x ((rw' d i).drop (c + 1))) = true then _ else _
    rw [← ge]
    generalize lget (lget d.f1 (i : Int)) (c : Int) = q at he
    by_cases a : 0 ≤ q
    · rw [if_pos a, if_pos (by omega), if_pos ⟨a, by omega⟩, Option.bind_some, decide_eq_true a, Bool.true_and]
      cases lget x q with
      | true => rw [if_pos rfl, if_pos ⟨by omega, by omega⟩, Bool.true_or, if_pos rfl]
      | false =>
        rw [if_neg (by decide), Bool.false_or, w64s (by omega) (by omega)]
        exact_mod_cast ih
    · rw [if_neg a, Option.bind_some, if_neg (by decide), decide_eq_false a, Bool.false_and, Bool.false_or, w64s (by omega) (by omega)]
      exact_mod_cast ih
theorem alive_l3 {d : S50} (h : Dr d) (rec9 : List Bool → Bool → Option (List Bool)) : ∀ (m i fuel : Nat) (x : List Bool) (b : Bool), i + m = d.f1.length → m < fuel → x.length = d.f1.length →
    dfa_Alive_l3 2000 rec9 d fuel x b (i : Int) = rec9 (aps d m i (x, b)).1 (aps d m i (x, b)).2
  | 0, i, f + 1, x, b, hi, _, hx => by
    rw [dfa_Alive_l3.eq_2, if_neg (by omega)]; rfl
  | m + 1, i, f + 1, x, b, hi, hf, hx => by
    have hn := h.n2
    have h256 : (rw' d i).length ≤ 256 := h.row256 _ (mem_lget (l := d.f1) (i := (i : Int)) (by omega) (by omega))
    have ih := fun y b hy => alive_l3 h rec9 m (i + 1) f y b (by omega) (by omega) hy
    rw [dfa_Alive_l3.eq_2, if_pos (by omega), if_pos ⟨by omega, by omega⟩, if_pos ⟨by omega, by omega⟩, aps]
    unfold ap
    by_cases a : lget x (i : Int) = true
    · rw [if_pos a, if_pos a, dfa_Alive_c1, w64s (by omega) (by omega)]
      exact_mod_cast ih x b hx
    · have e := alive_l2 h (dfa_Alive_l3 2000 rec9 d f) x b i (by omega) hx (rw' d i).length 0 2000 (by omega) (by omega)
      rw [Int.natCast_zero, List.drop_zero] at e
      rw [if_neg a, if_neg a, e]
      by_cases c : hit d x (rw' d i) = true
      · rw [if_pos c, if_pos c, dfa_Alive_c1, w64s (by omega) (by omega)]
        exact_mod_cast ih _ true (by rw [lset_len]; exact hx)
      · rw [if_neg c, if_neg c, dfa_Alive_c1, w64s (by omega) (by omega)]
        exact_mod_cast ih x b hx
theorem alive_l4 {d : S50} (h : Dr d) : ∀ (m : Nat) (x : List Bool), x.length = d.f1.length → d.f1.length - cnt x + 1 < m → (∀ q, 0 ≤ q → lget x q = true → AL d q) →
    ∃ A, dfa_Alive_l4 2000 d m x true = some A ∧ A.length = d.f1.length ∧ LE x A ∧ (∀ q, 0 ≤ q → lget A q = true → AL d q) ∧ ∀ j : Nat, j < d.f1.length → hit d A (rw' d j) = true → lget A (j : Int) = true
  | m + 1, x, hx, hm, hq => by
    have hn := h.n2
    rw [dfa_Alive_l4.eq_2, if_pos rfl]
    have e := alive_l3 h (dfa_Alive_l4 2000 d m) d.f1.length 0 2000 x false (by omega) (by omega) hx
    rw [Int.natCast_zero] at e
    rw [e]
    have hp : (aps d d.f1.length 0 (x, false)).1.length = x.length := aps_len d _ _ (x, false)
    have hle : LE x (aps d d.f1.length 0 (x, false)).1 := aps_le d.f1.length 0 (x, false) (by omega) hx
    have hsn := aps_snd h d.f1.length 0 (x, false) (by omega) hx hq
    by_cases q : (aps d d.f1.length 0 (x, false)).2 = true
    · rw [q]
      rcases aps_cnt (d := d) d.f1.length 0 (x, false) (by omega) hx with r | ⟨_, r⟩
      · rw [r] at q; cases q
      · have r' : cnt x < cnt (aps d d.f1.length 0 (x, false)).1 := r
        have hc := cnt_le_len (hp.trans hx)
        obtain ⟨A, a1, a2, a3, a4, a5⟩ := alive_l4 h m _ (hp.trans hx) (by omega) hsn
        exact ⟨A, a1, a2, hle.trans a3, a4, a5⟩
    · have q' : (aps d d.f1.length 0 (x, false)).2 = false := by simpa using q
      obtain ⟨k1, k2⟩ := aps_closed d d.f1.length 0 x q'
      rw [q', k1]
      cases m with
      | zero => omega
      | succ m =>
        rw [dfa_Alive_l4.eq_2, if_neg (by decide), dfa_Alive_c0]
        exact ⟨x, rfl, hx, LE.refl x, hq, fun j hj hh => k2 j (by omega) (by omega) hh⟩
theorem alive_l6 {d : S50} (h : Dr d) : ∀ (m i fuel : Nat) (x : List Bool), i + m = d.f1.length → m < fuel → x.length = d.f1.length → (∀ j : Nat, j < i → lget x (j : Int) = decide (0 ≤ mk d j)) →
    ∃ y : List Bool, dfa_Alive_l6 2000 d fuel x (i : Int) = dfa_Alive_c5 2000 d y ∧ y.length = d.f1.length ∧ ∀ j : Nat, j < d.f1.length → lget y (j : Int) = decide (0 ≤ mk d j)
  | 0, i, f + 1, x, hi, _, hx, hq => by
    rw [dfa_Alive_l6.eq_2, if_neg (by simp; omega)]
    exact ⟨x, rfl, hx, fun j hj => hq j (by omega)⟩
  | m + 1, i, f + 1, x, hi, hf, hx, hq => by
    have hn := h.n2
    rw [dfa_Alive_l6.eq_2, if_pos (by simp; omega), mark_eq, Option.bind_some, if_pos ⟨by omega, by omega⟩, w64s (by omega) (by omega)]
    have ih := alive_l6 h m (i + 1) f (lset x (i : Int) (decide (0 ≤ mk d i))) (by omega) (by omega) (by rw [lset_len]; exact hx) (fun j hj => by
      rw [lget_lsetB x i j _ (by omega) (by omega) (by omega)]
      by_cases e : (j : Int) = (i : Int)
      · rw [if_pos e, e]
      · rw [if_neg e]; exact hq j (by omega))
    exact_mod_cast ih
theorem alive_eq {d : S50} (h : Dr d) : ∃ A, dfa_Alive 2000 d = some A ∧ AS d A := by
  have hn := h.n2
  unfold dfa_Alive
  rw [if_pos ⟨by omega, by omega, by omega⟩]
  obtain ⟨y, y1, y2, y3⟩ := alive_l6 h d.f1.length 0 2000 (List.replicate (d.f1.length : Int).toNat false) (by omega) (by omega) (by simp) (fun j hj => by omega)
  rw [Int.natCast_zero] at y1
  have y4 : ∀ q, 0 ≤ q → lget y q = true → AL d q := fun q h0 hg => by
    obtain ⟨j, rfl⟩ := Int.eq_ofNat_of_zero_le h0
    by_cases hj : j < d.f1.length
    · rw [y3 j hj] at hg
      exact ⟨_, .refl, of_decide_eq_true hg⟩
    · have : lget y (j : Int) = false := by
        unfold lget; rw [List.getD, List.getElem?_eq_none (by omega)]; rfl
      rw [this] at hg; cases hg
  obtain ⟨A, a1, a2, a3, a4, a5⟩ := alive_l4 h 2000 y y2 (by omega) y4
  refine ⟨A, by rw [y1]; exact a1, a2, fun q h0 h1 => ⟨a4 q h0, ?_⟩⟩
  rintro ⟨r, k, hr⟩
  have key : ∀ s r, DR d s r → 0 ≤ s → s < (d.f1.length : Int) → lget A r = true → lget A s = true := by
    intro s r k
    induction k with
    | refl => exact fun _ _ hg => hg
    | @step p c k hc k0 ih =>
      intro h0 h1 hg
      have hp := k.in h ⟨h0, h1⟩
      obtain ⟨j, rfl⟩ := Int.eq_ofNat_of_zero_le hp.1
      exact ih h0 h1 (a5 j (by omega) ((hit_iff h (by omega)).2 ⟨c, hc, k0, hg⟩))
  refine key q r k h0 h1 ?_
  have hrr := k.in h ⟨h0, h1⟩
  obtain ⟨j, rfl⟩ := Int.eq_ofNat_of_zero_le hrr.1
  exact a3 _ (by omega) (by rw [y3 j (by omega)]; exact decide_eq_true hr)
/-! The document's answer. -/
theorem mk_in {d : S50} (h : Dr d) {i : Int} (h0 : 0 ≤ i) (h1 : i < (d.f1.length : Int)) : mk d i = lget d.f2 i := by
  have := h.ml
  unfold mk; rw [if_neg (by omega)]
theorem ralive_l3 {d : S50} (h : Dr d) (rec8 : List Bool → Int → Option (List Bool)) (x6 : List Bool) (x7 : Int) (R : List Bool) (hR : R.length = d.f1.length) : ∀ (m k fuel : Nat) (b : Bool), k + m = d.f1.length → m < fuel →
    bosketref08_Alive_l3 2000 rec8 d x6 x7 R fuel b (k : Int) = bosketref08_Alive_c2 2000 rec8 x6 x7 (b || anyB' (fun j => lget R (j : Int) && decide (0 ≤ lget d.f2 (j : Int))) m k)
  | 0, k, f + 1, b, hk, _ => by
    rw [bosketref08_Alive_l3.eq_2, if_neg (by omega), anyB', Bool.or_false]
  | m + 1, k, f + 1, b, hk, hf => by
    have hn := h.n2
    have hm := h.ml
    have ih := fun b => ralive_l3 h rec8 x6 x7 R hR m (k + 1) f b (by omega) (by omega)
    have g : 0 ≤ (k : Int) ∧ (k : Int) < (R.length : Int) := ⟨by omega, by omega⟩
    have g2 : 0 ≤ (k : Int) ∧ (k : Int) < (d.f2.length : Int) := ⟨by omega, by omega⟩
    rw [bosketref08_Alive_l3.eq_2, if_pos g.2, if_pos g, if_pos g2]
    have key : (if b = true then some true else if lget R (k : Int) = true then some (decide (0 ≤ lget d.f2 (k : Int))) else some false) = some (b || (lget R (k : Int) && decide (0 ≤ lget d.f2 (k : Int)))) := by
      cases b <;> cases lget R (k : Int) <;> simp
    rw [key, Option.bind_some, w64s (by omega) (by omega), show (k : Int) + 1 = ((k + 1 : Nat) : Int) by omega, ih, anyB', Bool.or_assoc]
theorem ralive_l4 {d : S50} (h : Dr d) : ∀ (m i fuel : Nat) (x : List Bool), i + m = d.f1.length → m < fuel → x.length = i → (∀ j : Nat, j < i → (lget x (j : Int) = true ↔ AL d j)) →
    ∃ A, bosketref08_Alive_l4 2000 d fuel x (i : Int) = some A ∧ AS d A
  | 0, i, f + 1, x, hi, _, hx, hq => by
    rw [bosketref08_Alive_l4.eq_2, if_neg (by omega), bosketref08_Alive_c0]
    refine ⟨x, rfl, by omega, fun q h0 h1 => ?_⟩
    obtain ⟨j, rfl⟩ := Int.eq_ofNat_of_zero_le h0
    exact hq j (by omega)
  | m + 1, i, f + 1, x, hi, hf, hx, hq => by
    have hn := h.n2
    obtain ⟨R, r1, r2⟩ := rreached_eq h (i : Int)
    have e := ralive_l3 h (bosketref08_Alive_l4 2000 d f) x (i : Int) R r2.1 d.f1.length 0 2000 false (by omega) (by omega)
    rw [Int.natCast_zero] at e
    rw [bosketref08_Alive_l4.eq_2, if_pos (by omega), r1, Option.bind_some, e, Bool.false_or, bosketref08_Alive_c2, if_pos (by simp; omega), bosketref08_Alive_c1, w64s (by omega) (by omega)]
    have hval : anyB' (fun j => lget R (j : Int) && decide (0 ≤ lget d.f2 (j : Int))) d.f1.length 0 = true ↔ AL d i := by
      rw [anyB_iff]
      constructor
      · rintro ⟨j, _, h2, h3⟩
        simp only [Bool.and_eq_true, decide_eq_true_eq] at h3
        exact ⟨j, ((r2.2 j (by omega) (by omega)).1 h3.1).2, by rw [mk_in h (by omega) (by omega)]; exact h3.2⟩
      · rintro ⟨q, k, hm⟩
        have hs : 0 ≤ (i : Int) ∧ (i : Int) < (d.f1.length : Int) := ⟨by omega, by omega⟩
        have hqr := k.in h hs
        obtain ⟨j, rfl⟩ := Int.eq_ofNat_of_zero_le hqr.1
        rw [mk_in h (by omega) (by omega)] at hm
        exact ⟨j, by omega, by omega, by simp only [Bool.and_eq_true, decide_eq_true_eq]; exact ⟨(r2.2 j (by omega) (by omega)).2 ⟨hs, k⟩, hm⟩⟩
    have ih := ralive_l4 h m (i + 1) f (x ++ [anyB' (fun j => lget R (j : Int) && decide (0 ≤ lget d.f2 (j : Int))) d.f1.length 0]) (by omega) (by omega) (by simp; omega) (fun j hj => by
      by_cases q : j < i
      · have : lget (x ++ [anyB' (fun j => lget R (j : Int) && decide (0 ≤ lget d.f2 (j : Int))) d.f1.length 0]) (j : Int) = lget x (j : Int) := by
          rw [lget_lt _ j (by simp; omega), lget_lt x j (by omega), List.getElem_append_left]
        rw [this]; exact hq j q
      · obtain rfl : j = i := by omega
        have : lget (x ++ [anyB' (fun j => lget R (j : Int) && decide (0 ≤ lget d.f2 (j : Int))) d.f1.length 0]) (j : Int) = anyB' (fun j => lget R (j : Int) && decide (0 ≤ lget d.f2 (j : Int))) d.f1.length 0 := by
          rw [lget_lt _ j (by simp; omega), List.getElem_append_right (by omega)]; simp
        rw [this]; exact hval)
    exact_mod_cast ih
theorem ralive_eq {d : S50} (h : Dr d) : ∃ A, bosketref08_Alive 2000 d = some A ∧ AS d A := by
  have hn := h.n2
  exact ralive_l4 h d.f1.length 0 2000 [] (by omega) (by omega) rfl (fun j hj => by omega)
/-! Trimmed. -/
def tr (a : List Bool) (x : Int) : Int := if 0 ≤ x ∧ lget a x = false then -1 else x
/-- What is left. -/
def TRM (d : S50) (a : List Bool) : S50 := S50.mk d.f0 (d.f1.map fun r => r.map (tr a)) d.f2
theorem iget_lt (l : List Int) (i : Nat) (h : i < l.length) : lget l (i : Int) = l[i] := lget_lt l i h
theorem trim_l4 {d : S50} (rec12 : List (List Int) → Int → Option S50) (a : List Bool) (acc : List (List Int)) (x11 : Int) (t18 : List Int) (ht : ∀ q ∈ t18, q < (a.length : Int)) (hz : t18.length ≤ 1000) : ∀ (m c fuel : Nat), c + m = t18.length → m < fuel →
    dfa_Trim_l4 2000 rec12 a acc x11 t18 fuel ((t18.take c).map (tr a) ++ t18.drop c) (c : Int) = dfa_Trim_c2 2000 rec12 acc x11 (t18.map (tr a))
  | 0, c, f + 1, hc, _ => by
    rw [dfa_Trim_l4.eq_2, if_neg (by omega), List.take_of_length_le (by omega), List.drop_of_length_le (by omega), List.append_nil]
  | m + 1, c, f + 1, hc, hf => by
    have hc' : c < t18.length := by omega
    have hq := ht _ (List.getElem_mem hc')
    have hlen : ((t18.take c).map (tr a) ++ t18.drop c).length = t18.length := by simp; omega
    have hget : lget ((t18.take c).map (tr a) ++ t18.drop c) (c : Int) = t18[c] := by
      rw [iget_lt _ c (by omega), List.getElem_append_right (by simp; omega)]
      simp [show c - min c t18.length = 0 by omega]
    have hset : ∀ v, lset ((t18.take c).map (tr a) ++ t18.drop c) (c : Int) v = (t18.take c).map (tr a) ++ (v :: t18.drop (c + 1)) := fun v => by
      unfold lset
      rw [Int.toNat_natCast, List.set_append_right _ _ (by simp; omega), show c - ((t18.take c).map (tr a)).length = 0 by simp; omega, List.drop_eq_getElem_cons hc', List.set_cons_zero]
    have ih := trim_l4 (d := d) rec12 a acc x11 t18 ht hz m (c + 1) f (by omega) (by omega)
    have hnext : (t18.take (c + 1)).map (tr a) ++ t18.drop (c + 1) = (t18.take c).map (tr a) ++ (tr a t18[c] :: t18.drop (c + 1)) := by
      rw [← List.take_append_getElem hc', List.map_append, List.append_assoc]; rfl
    rw [hnext] at ih
    have g : 0 ≤ (c : Int) ∧ (c : Int) < (((t18.take c).map (tr a) ++ t18.drop c).length : Int) := ⟨by omega, by omega⟩
    rw [dfa_Trim_l4.eq_2, if_pos (by omega), if_pos g, hget, if_pos g]
    unfold tr at ih
    by_cases b : 0 ≤ t18[c]
    · rw [if_pos b, if_pos hq, if_pos ⟨b, hq⟩, Option.bind_some]
      cases e : lget a t18[c] with
      | false =>
        rw [if_pos ⟨b, e⟩] at ih
        rw [if_pos (by decide), hset, dfa_Trim_c3, w64s (by omega) (by omega)]
        exact_mod_cast ih
      | true =>
        rw [if_neg (by rw [e]; simp), ← List.drop_eq_getElem_cons hc'] at ih
        rw [if_neg (by decide), dfa_Trim_c3, w64s (by omega) (by omega)]
        exact_mod_cast ih
    · rw [if_neg (fun k => b k.1), ← List.drop_eq_getElem_cons hc'] at ih
      rw [if_neg b, Option.bind_some, if_neg (by decide), dfa_Trim_c3, w64s (by omega) (by omega)]
      exact_mod_cast ih
theorem trim_l5 {d : S50} (h : Dr d) (a : List Bool) (ha : a.length = d.f1.length) : ∀ (m i fuel : Nat), i + m = d.f1.length → m < fuel →
    dfa_Trim_l5 2000 d a d.f2 fuel ((d.f1.take i).map fun r => r.map (tr a)) (i : Int) = some (TRM d a)
  | 0, i, f + 1, hi, _ => by
    rw [dfa_Trim_l5.eq_2, if_neg (by omega), dfa_Trim_c0, List.take_of_length_le (by omega)]; rfl
  | m + 1, i, f + 1, hi, hf => by
    have hn := h.n2
    have hi' : i < d.f1.length := by omega
    have hr : d.f1[i] ∈ d.f1 := List.getElem_mem hi'
    have h256 := h.row256 _ hr
    have ih := trim_l5 h a ha m (i + 1) f (by omega) (by omega)
    rw [dfa_Trim_l5.eq_2, if_pos (by omega), if_pos ⟨by omega, by omega⟩, lget_lt _ i hi']
    unfold slices_Clone_int_int__own
    rw [if_pos (by simp; omega), Option.bind_some, List.nil_append]
    have e := trim_l4 (d := d) (dfa_Trim_l5 2000 d a d.f2 f) a ((d.f1.take i).map fun r => r.map (tr a)) (i : Int) d.f1[i] (fun q hq => by rw [ha]; exact (h.ent _ hr q hq).2) (by omega) d.f1[i].length 0 2000 (by omega) (by omega)
    rw [Int.natCast_zero, List.take_zero, List.drop_zero, List.map_nil, List.nil_append] at e
    rw [e, dfa_Trim_c2, if_pos (by simp; omega), dfa_Trim_c1, w64s (by omega) (by omega)]
    have : (d.f1.take (i + 1)).map (fun r => r.map (tr a)) = (d.f1.take i).map (fun r => r.map (tr a)) ++ [d.f1[i].map (tr a)] := by
      rw [← List.take_append_getElem hi', List.map_append]; rfl
    rw [this] at ih
    exact_mod_cast ih
theorem trim_eq {d : S50} (h : Dr d) : ∃ A, AS d A ∧ dfa_Trim 2000 d = some (TRM d A) := by
  obtain ⟨A, a1, a2⟩ := alive_eq h
  have hn := h.n2
  have hm := h.ml
  refine ⟨A, a2, ?_⟩
  unfold dfa_Trim
  rw [a1, Option.bind_some]
  unfold slices_Clone_int_int_
  rw [if_pos (by simp; omega), Option.bind_some, List.nil_append]
  have := trim_l5 h A a2.1 d.f1.length 0 2000 (by omega) (by omega)
  rw [Int.natCast_zero, List.take_zero] at this
  exact this
theorem rtrim_l4 {d : S50} (h : Dr d) (rec14 : List (List Int) → Int → Option S50) (a : List Bool) (ha : a.length = d.f1.length) (acc : List (List Int)) (i : Nat) (hi : i < d.f1.length) : ∀ (m c fuel : Nat), c + m = (rw' d i).length → m < fuel →
    bosketref08_Trim_l4 2000 rec14 d a acc (i : Int) fuel (((rw' d i).take c).map (tr a)) (c : Int) = bosketref08_Trim_c2 2000 rec14 acc (i : Int) ((rw' d i).map (tr a))
  | 0, c, f + 1, hc, _ => by
    have hcn : ¬ (c : Int) < ((lget d.f1 (i : Int)).length : Int) := by
      have : ¬ (c : Int) < ((rw' d i).length : Int) := by omega
      exact this
    rw [bosketref08_Trim_l4.eq_2, if_pos ⟨by omega, by omega⟩, if_neg hcn, List.take_of_length_le (by omega)]
  | m + 1, c, f + 1, hc, hf => by
    have hc' : c < (rw' d i).length := by omega
    have hcI : (c : Int) < ((lget d.f1 (i : Int)).length : Int) := by
      have : (c : Int) < ((rw' d i).length : Int) := by omega
      exact this
    have he := h.entk (i := (i : Int)) (by omega) (by omega) (c := (c : Int)) (by omega) hcI
    have h256 : (rw' d i).length ≤ 256 := h.row256 _ (mem_lget (l := d.f1) (i := (i : Int)) (by omega) (by omega))
    have ge : lget (lget d.f1 (i : Int)) (c : Int) = (rw' d i)[c] := lget_lt (rw' d i) c hc'
    have g : 0 ≤ (i : Int) ∧ (i : Int) < (d.f1.length : Int) := ⟨by omega, by omega⟩
    have ih := rtrim_l4 h rec14 a ha acc i hi m (c + 1) f (by omega) (by omega)
    have hnext : ((rw' d i).take (c + 1)).map (tr a) = ((rw' d i).take c).map (tr a) ++ [tr a (rw' d i)[c]] := by
      rw [← List.take_append_getElem hc', List.map_append]; rfl
    rw [hnext] at ih
    rw [bosketref08_Trim_l4.eq_2, if_pos g, if_pos hcI, if_pos g, if_pos ⟨by omega, hcI⟩]
    unfold bosketref08_Trim_c3
    have hlen : ∀ v : Int, (((rw' d i).take c).map (tr a) ++ [v]).length * 8 ≤ 140737488355328 := fun v => by simp; omega
    rw [ge] at he ⊢
    unfold tr at ih
    by_cases b : 0 ≤ (rw' d i)[c]
    · rw [if_pos b, if_pos ⟨b, by omega⟩, Option.bind_some, w64s (by omega) (by omega)]
      cases e : lget a (rw' d i)[c] with
      | false =>
        rw [if_pos ⟨b, e⟩] at ih
        rw [if_pos (by decide), if_pos (hlen _)]
        exact_mod_cast ih
      | true =>
        rw [if_neg (by rw [e]; simp)] at ih
        rw [if_neg (by decide), if_pos (hlen _)]
        exact_mod_cast ih
    · rw [if_neg (fun k => b k.1)] at ih
      rw [if_neg b, Option.bind_some, if_neg (by decide), if_pos (hlen _), w64s (by omega) (by omega)]
      exact_mod_cast ih
theorem rtrim_l5 {d : S50} (h : Dr d) (a : List Bool) (ha : a.length = d.f1.length) : ∀ (m i fuel : Nat), i + m = d.f1.length → m < fuel →
    bosketref08_Trim_l5 2000 d a fuel ((d.f1.take i).map fun r => r.map (tr a)) (i : Int) = some (TRM d a)
  | 0, i, f + 1, hi, _ => by
    rw [bosketref08_Trim_l5.eq_2, if_neg (by omega), bosketref08_Trim_c0, List.take_of_length_le (by omega)]; rfl
  | m + 1, i, f + 1, hi, hf => by
    have hn := h.n2
    have hi' : i < d.f1.length := by omega
    have h256 : (rw' d i).length ≤ 256 := h.row256 _ (mem_lget (l := d.f1) (i := (i : Int)) (by omega) (by omega))
    have ih := rtrim_l5 h a ha m (i + 1) f (by omega) (by omega)
    have e := rtrim_l4 h (bosketref08_Trim_l5 2000 d a f) a ha ((d.f1.take i).map fun r => r.map (tr a)) i hi' (rw' d i).length 0 2000 (by omega) (by omega)
    rw [Int.natCast_zero, List.take_zero, List.map_nil] at e
    rw [bosketref08_Trim_l5.eq_2, if_pos (by omega), e, bosketref08_Trim_c2, if_pos (by simp; omega), bosketref08_Trim_c1, w64s (by omega) (by omega)]
    have : (d.f1.take (i + 1)).map (fun r => r.map (tr a)) = (d.f1.take i).map (fun r => r.map (tr a)) ++ [(rw' d i).map (tr a)] := by
      rw [← List.take_append_getElem hi', List.map_append, show rw' d i = d.f1[i] from lget_lt _ i hi']; rfl
    rw [this] at ih
    exact_mod_cast ih
theorem rtrim_eq {d : S50} (h : Dr d) : ∃ A, AS d A ∧ bosketref08_Trim 2000 d = some (TRM d A) := by
  obtain ⟨A, a1, a2⟩ := ralive_eq h
  have hn := h.n2
  have hm := h.ml
  refine ⟨A, a2, ?_⟩
  unfold bosketref08_Trim
  rw [a1, Option.bind_some, if_pos (by simp; omega)]
  have := rtrim_l5 h A a2.1 d.f1.length 0 2000 (by omega) (by omega)
  rw [Int.natCast_zero, List.take_zero] at this
  exact this
/-! Alike. -/
theorem eql_l (l m : List Int) (hl : l.length = m.length) (hz : l.length ≤ 1000) : ∀ (k i fuel : Nat), i + k = l.length → k < fuel → slices_Equal_int_int__l1 2000 l m fuel (i : Int) = some (decide (l.drop i = m.drop i))
  | 0, i, f + 1, hi, _ => by
    rw [slices_Equal_int_int__l1.eq_2, if_neg (by omega), List.drop_of_length_le (by omega), List.drop_of_length_le (by omega)]; rfl
  | k + 1, i, f + 1, hi, hf => by
    have h1 : i < l.length := by omega
    have h2 : i < m.length := by omega
    have ih := eql_l l m hl hz k (i + 1) f (by omega) (by omega)
    rw [slices_Equal_int_int__l1.eq_2, if_pos (by omega), if_pos ⟨by omega, by omega⟩, if_pos ⟨by omega, by omega⟩, lget_lt l i h1, lget_lt m i h2, w64s (by omega) (by omega), List.drop_eq_getElem_cons h1, List.drop_eq_getElem_cons h2]
    by_cases e : l[i] = m[i]
    · rw [if_neg (by simpa using e)]
      have : decide (l[i] :: l.drop (i + 1) = m[i] :: m.drop (i + 1)) = decide (l.drop (i + 1) = m.drop (i + 1)) := by rw [e, decide_eq_decide]; exact ⟨fun k => (List.cons.inj k).2, fun k => by rw [k]⟩
      rw [this]; exact_mod_cast ih
    · rw [if_pos e, decide_eq_false (fun k => e (List.cons.inj k).1)]
theorem eql_eq (l m : List Int) (hz : l.length ≤ 1000) : slices_Equal_int_int_ 2000 l m = some (decide (l = m)) := by
  unfold slices_Equal_int_int_
  by_cases a : (l.length : Int) = (m.length : Int)
  · rw [if_neg (by simpa using a)]
    have := eql_l l m (by omega) hz l.length 0 2000 (by omega) (by omega)
    rw [List.drop_zero, List.drop_zero] at this
    exact_mod_cast this
  · rw [if_pos a, decide_eq_false (fun e => a (by rw [e]))]
theorem eqf_l (l m : List (List Int)) (hl : l.length = m.length) (hz : l.length ≤ 1000) (hr : ∀ r ∈ l, r.length ≤ 1000) : ∀ (k i fuel : Nat), i + k = l.length → k < fuel → slices_EqualFunc_int_int_int_int__l1 2000 l m fuel (i : Int) = some (decide (l.drop i = m.drop i))
  | 0, i, f + 1, hi, _ => by
    rw [slices_EqualFunc_int_int_int_int__l1.eq_2, if_neg (by omega), List.drop_of_length_le (by omega), List.drop_of_length_le (by omega)]; rfl
  | k + 1, i, f + 1, hi, hf => by
    have h1 : i < l.length := by omega
    have h2 : i < m.length := by omega
    have ih := eqf_l l m hl hz hr k (i + 1) f (by omega) (by omega)
    rw [slices_EqualFunc_int_int_int_int__l1.eq_2, if_pos (by omega), if_pos ⟨by omega, by omega⟩, if_pos ⟨by omega, by omega⟩, lget_lt l i h1, lget_lt m i h2, eql_eq _ _ (hr _ (List.getElem_mem h1)), Option.bind_some, w64s (by omega) (by omega), List.drop_eq_getElem_cons h1, List.drop_eq_getElem_cons h2]
    by_cases e : l[i] = m[i]
    · rw [if_neg (by simp [e])]
      have : decide (l[i] :: l.drop (i + 1) = m[i] :: m.drop (i + 1)) = decide (l.drop (i + 1) = m.drop (i + 1)) := by rw [e, decide_eq_decide]; exact ⟨fun k => (List.cons.inj k).2, fun k => by rw [k]⟩
      rw [this]; exact_mod_cast ih
    · rw [if_pos (by simp [e]), decide_eq_false (fun k => e (List.cons.inj k).1)]
theorem eqf_eq (l m : List (List Int)) (hz : l.length ≤ 1000) (hr : ∀ r ∈ l, r.length ≤ 1000) : slices_EqualFunc_int_int_int_int_ 2000 l m = some (decide (l = m)) := by
  unfold slices_EqualFunc_int_int_int_int_
  by_cases a : (l.length : Int) = (m.length : Int)
  · rw [if_neg (by simpa using a)]
    have := eqf_l l m (by omega) hz hr l.length 0 2000 (by omega) (by omega)
    rw [List.drop_zero, List.drop_zero] at this
    exact_mod_cast this
  · rw [if_pos a, decide_eq_false (fun e => a (by rw [e]))]
theorem dsame_eq (a b : S50) (h1 : a.f1.length ≤ 1000) (h2 : a.f2.length ≤ 1000) (h3 : ∀ r ∈ a.f1, r.length ≤ 1000) : dfa_Same 2000 a b = some (decide (a = b)) := by
  unfold dfa_Same
  have hab : a = b ↔ a.f0 = b.f0 ∧ a.f2 = b.f2 ∧ a.f1 = b.f1 := by
    cases a; cases b
    constructor
    · intro e; cases e; exact ⟨rfl, rfl, rfl⟩
    · rintro ⟨e1, e2, e3⟩; simp only at e1 e2 e3; subst e1; subst e2; subst e3; rfl
  by_cases e1 : a.f0 = b.f0
  · rw [if_pos e1, eql_eq _ _ h2, Option.bind_some]
    by_cases e2 : a.f2 = b.f2
    · rw [if_pos (decide_eq_true e2), eqf_eq _ _ h1 h3, Option.bind_some, Option.bind_some]
      congr 1
      rw [decide_eq_decide, hab]
      exact ⟨fun k => ⟨e1, e2, k⟩, fun k => k.2.2⟩
    · rw [if_neg (by simpa using e2), decide_eq_false (fun k => e2 (hab.1 k).2.1)]; rfl
  · rw [if_neg e1, decide_eq_false (fun k => e1 (hab.1 k).1)]; rfl
end Go.Avl.T3
/- Machines in one state: put in order. -/
namespace Go.Avl.T3
open Go Go.RowKit Go.Proofs Go.Avl
set_option linter.all false
set_option maxRecDepth 10000

/-- The place of a number, from a place on; -1. -/
def plc : List Int → Int → Int → Int
  | [], _, _ => -1
  | y :: l, x, i => if y = x then i else plc l x (i + 1)
def pl (l : List Int) (x : Int) : Int := plc l x 0
theorem plc_not {x : Int} : ∀ (l : List Int) (i : Int), x ∉ l → plc l x i = -1
  | [], _, _ => rfl
  | y :: l, i, h => by
    rw [plc, if_neg (fun e => h (by simp [e])), plc_not l (i + 1) (fun e => h (by simp [e]))]
theorem plc_app {x : Int} (m : List Int) : ∀ (l : List Int) (i : Int), x ∈ l → plc (l ++ m) x i = plc l x i
  | y :: l, i, h => by
    rw [List.cons_append, plc, plc]
    by_cases e : y = x
    · rw [if_pos e, if_pos e]
    · rw [if_neg e, if_neg e, plc_app m l (i + 1) ((List.mem_cons.1 h).resolve_left fun k => e k.symm)]
theorem plc_last {x : Int} : ∀ (l : List Int) (i : Int), x ∉ l → plc (l ++ [x]) x i = i + l.length
  | [], i, _ => by simp [plc]
  | y :: l, i, h => by
    rw [List.cons_append, plc, if_neg (fun e => h (by simp [e])), plc_last l (i + 1) (fun e => h (by simp [e])), List.length_cons]; omega
theorem plc_other {x y : Int} (e : y ≠ x) : ∀ (l : List Int) (i : Int), plc (l ++ [y]) x i = plc l x i
  | [], i => by simp [plc, e]
  | z :: l, i => by rw [List.cons_append, plc, plc, plc_other e l (i + 1)]
theorem plc_get {x : Int} : ∀ (l : List Int) (i : Int), x ∈ l → ∃ j : Nat, j < l.length ∧ plc l x i = i + j ∧ lget l (j : Int) = x
  | y :: l, i, h => by
    by_cases e : y = x
    · exact ⟨0, by simp, by rw [plc, if_pos e]; omega, e⟩
    · obtain ⟨j, j1, j2, j3⟩ := plc_get l (i + 1) ((List.mem_cons.1 h).resolve_left fun k => e k.symm)
      refine ⟨j + 1, by simp; omega, by rw [plc, if_neg e, j2]; omega, ?_⟩
      rw [lget_lt _ _ (by simp; omega)]
      rw [lget_lt _ _ j1] at j3
      simpa using j3
theorem pl_not {l : List Int} {x : Int} (h : x ∉ l) : pl l x = -1 := plc_not l 0 h
theorem pl_get {l : List Int} {x : Int} (h : x ∈ l) : ∃ j : Nat, j < l.length ∧ pl l x = j ∧ lget l (j : Int) = x := by
  obtain ⟨j, j1, j2, j3⟩ := plc_get l 0 h
  exact ⟨j, j1, by unfold pl; omega, j3⟩
theorem pl_app {l : List Int} {x : Int} (m : List Int) (h : x ∈ l) : pl (l ++ m) x = pl l x := plc_app m l 0 h
/-- One more is met. -/
def addO (L : List Int) (x : Int) : List Int := if 0 ≤ x ∧ x ∉ L then L ++ [x] else L
def ordR (L : List Int) (r : List Int) : List Int := r.foldl addO L
theorem addO_pre (L : List Int) (x : Int) : ∃ m, addO L x = L ++ m := by
  unfold addO; split
  · exact ⟨[x], rfl⟩
  · exact ⟨[], by simp⟩
theorem ordR_pre : ∀ (r L : List Int), ∃ m, ordR L r = L ++ m
  | [], L => ⟨[], by simp [ordR]⟩
  | x :: r, L => by
    obtain ⟨m, hm⟩ := addO_pre L x
    obtain ⟨k, hk⟩ := ordR_pre r (addO L x)
    refine ⟨m ++ k, ?_⟩
    show ordR (addO L x) r = _
    rw [hk, hm, List.append_assoc]
theorem addO_mem {L : List Int} {x : Int} (h : 0 ≤ x) : x ∈ addO L x := by
  unfold addO; split
  · simp
  · rename_i c
    by_cases q : x ∈ L
    · exact q
    · exact absurd ⟨h, q⟩ c
theorem ordR_mem : ∀ (r L : List Int) {x : Int}, x ∈ r → 0 ≤ x → x ∈ ordR L r
  | y :: r, L, x, h, h0 => by
    show x ∈ ordR (addO L y) r
    rcases List.mem_cons.1 h with rfl | h
    · obtain ⟨m, hm⟩ := ordR_pre r (addO L x)
      rw [hm]; exact List.mem_append_left _ (addO_mem h0)
    · exact ordR_mem r _ h h0
theorem ordR_from : ∀ (r L : List Int) {x : Int}, x ∈ ordR L r → x ∈ L ∨ (x ∈ r ∧ 0 ≤ x)
  | [], L, x, h => .inl h
  | y :: r, L, x, h => by
    have h' : x ∈ ordR (addO L y) r := h
    rcases ordR_from r _ h' with k | k
    · unfold addO at k
      split at k
      · rename_i c
        rcases List.mem_append.1 k with k | k
        · exact .inl k
        · have : x = y := by simpa using k
          subst this
          exact .inr ⟨by simp, c.1⟩
      · exact .inl k
    · exact .inr ⟨by simp [k.1], k.2⟩
theorem addO_nodup {L : List Int} {x : Int} (h : L.Nodup) : (addO L x).Nodup := by
  unfold addO; split
  · rename_i c
    rw [List.nodup_append]
    refine ⟨h, by simp, fun a ha b hb => ?_⟩
    have : b = x := by simpa using hb
    subst this
    intro e; subst e; exact c.2 ha
  · exact h
theorem ordR_nodup : ∀ (r L : List Int), L.Nodup → (ordR L r).Nodup
  | [], _, h => h
  | x :: r, L, h => ordR_nodup r _ (addO_nodup h)
theorem nodup_len : ∀ (n : Nat) (L : List Int), L.Nodup → (∀ x ∈ L, 0 ≤ x ∧ x < (n : Int)) → L.length ≤ n
  | 0, L, _, h => by
    cases L with
    | nil => simp
    | cons x L => have := h x (by simp); omega
  | n + 1, L, hn, h => by
    have ih := nodup_len n (L.erase (n : Int)) (hn.erase _) (fun x hx => by
      rw [hn.mem_erase_iff] at hx
      have := h x hx.2
      omega)
    by_cases q : (n : Int) ∈ L
    · rw [List.length_erase_of_mem q] at ih; omega
    · rw [List.erase_of_not_mem q] at ih; omega
/-- The states in the order in which they are met. -/
def obs (d : S50) : Nat → List Int → Nat → List Int
  | 0, L, _ => L
  | m + 1, L, i => if i < L.length then obs d m (ordR L (rw' d (lget L (i : Int)))) (i + 1) else L
def OL (d : S50) : List Int := obs d 2000 [0] 0
/-- What is put in order. -/
def OD (d : S50) (L : List Int) : S50 := S50.mk d.f0 (L.map fun q => (rw' d q).map (pl L)) (L.map fun q => lget d.f2 q)
def ORD (d : S50) : S50 := OD d (OL d)
structure OI (d : S50) (L : List Int) (i : Nat) : Prop where
  nd : L.Nodup
  rng : ∀ x ∈ L, 0 ≤ x ∧ x < (d.f1.length : Int)
  rch : ∀ x ∈ L, DR d 0 x
  cls : ∀ j : Nat, j < i → ∀ x ∈ rw' d (lget L (j : Int)), 0 ≤ x → x ∈ L
  le : i ≤ L.length
  hd : ∃ m, L = 0 :: m
theorem OI.len {d : S50} {L : List Int} {i : Nat} (h : OI d L i) : L.length ≤ d.f1.length := nodup_len _ L h.nd h.rng
theorem OI.start {d : S50} (h : Dr d) : OI d [0] 0 :=
  ⟨by simp, fun x hx => by have := h.n1; have e : x = 0 := by simpa using hx
                           subst e; omega, fun x hx => by have e : x = 0 := by simpa using hx
                                                          subst e; exact .refl, fun j hj => by omega, by simp, ⟨[], rfl⟩⟩
theorem lget_pre {L m : List Int} {j : Nat} (h : j < L.length) : lget (L ++ m) (j : Int) = lget L (j : Int) := by
  rw [lget_lt _ j (by simp; omega), lget_lt L j h, List.getElem_append_left]
theorem OI.next {d : S50} (hd : Dr d) {L : List Int} {i : Nat} (h : OI d L i) (hi : i < L.length) : OI d (ordR L (rw' d (lget L (i : Int)))) (i + 1) := by
  obtain ⟨m, hm⟩ := ordR_pre (rw' d (lget L (i : Int))) L
  have hmem : lget L (i : Int) ∈ L := mem_lget (by omega) (by omega)
  have hq := h.rng _ hmem
  refine ⟨ordR_nodup _ _ h.nd, fun x hx => ?_, fun x hx => ?_, fun j hj x hx h0 => ?_, by rw [hm]; simp; omega, ?_⟩
  · rcases ordR_from _ _ hx with k | k
    · exact h.rng x k
    · exact ⟨k.2, row_lt hd hq.1 hq.2 x k.1⟩
  · rcases ordR_from _ _ hx with k | k
    · exact h.rch x k
    · obtain ⟨c, hc, rfl⟩ := lget_mem k.1
      exact .step (h.rch _ hmem) (by omega) k.2
  · have hjL : j < L.length := by have := h.le; omega
    by_cases e : j = i
    · subst e
      rw [hm, lget_pre hjL] at hx
      exact ordR_mem _ _ hx h0
    · rw [hm, lget_pre hjL] at hx
      rw [hm]
      exact List.mem_append_left _ (h.cls j (by omega) x hx h0)
  · obtain ⟨k, hk⟩ := h.hd
    refine ⟨k ++ m, ?_⟩
    rw [hm, hk, List.cons_append]
theorem obs_OI {d : S50} (hd : Dr d) : ∀ (m : Nat) (L : List Int) (i : Nat), OI d L i → d.f1.length < i + m → OI d (obs d m L i) (obs d m L i).length
  | 0, L, i, h, hm => by
    have := h.len
    have := h.le
    omega
  | m + 1, L, i, h, hm => by
    rw [obs]
    by_cases a : i < L.length
    · rw [if_pos a]
      exact obs_OI hd m _ (i + 1) (h.next hd a) (by omega)
    · rw [if_neg a]
      have := h.le
      have e : i = L.length := by omega
      rw [← e]; exact h
theorem OL_OI {d : S50} (hd : Dr d) : OI d (OL d) (OL d).length := obs_OI hd 2000 [0] 0 (OI.start hd) (by have := hd.n2; omega)
/-- Rows of what stands closed keep their places. -/
theorem row_pl {L m : List Int} {r : List Int} (h : ∀ x ∈ r, -1 ≤ x) (hc : ∀ x ∈ r, 0 ≤ x → x ∈ L) (hL : ∀ x ∈ L ++ m, 0 ≤ x) : r.map (pl (L ++ m)) = r.map (pl L) := by
  apply List.map_congr_left
  intro x hx
  by_cases a : 0 ≤ x
  · exact pl_app m (hc x hx a)
  · rw [pl_not (fun k => a (hL x k)), pl_not (fun k => a (hL x (by simp [k])))]
theorem row_ge {d : S50} (h : Dr d) {p : Int} (h0 : 0 ≤ p) (h1 : p < (d.f1.length : Int)) : ∀ q ∈ rw' d p, -1 ≤ q := fun q hq => (h.ent _ (mem_lget h0 h1) q hq).1
/-! The inner walks. -/
theorem order_l5 {d : S50} (h : Dr d) (rec23 : List Int → List (List Int) → List Int → List Int → Int → Option S50) (x17 : List (List Int)) (x19 : List Int) (L0 : List Int) (i : Nat) (q : Int) (hq : lget L0 (i : Int) = q) (hq0 : 0 ≤ q ∧ q < (d.f1.length : Int)) :
    ∀ (m c fuel : Nat) (nb L acc : List Int), c + m = (rw' d q).length → m < fuel → nb.length = d.f1.length → (∀ x : Int, 0 ≤ x → x < (d.f1.length : Int) → lget nb x = pl L x) → (∀ x ∈ L, 0 ≤ x) → L.length + m ≤ 100000 → acc.length = c →
    ∃ nb', dfa_Order_l5 2000 rec23 d x17 x19 L0 (i : Int) fuel nb L acc (c : Int) = dfa_Order_c2 2000 rec23 d x17 x19 (i : Int) nb' (ordR L ((rw' d q).drop c)) (acc ++ ((rw' d q).drop c).map (pl (ordR L ((rw' d q).drop c)))) ∧
      nb'.length = d.f1.length ∧ (∀ x : Int, 0 ≤ x → x < (d.f1.length : Int) → lget nb' x = pl (ordR L ((rw' d q).drop c)) x)
  | 0, c, f + 1, nb, L, acc, hc, _, hn, hp, hL, hz, ha => by
    have hcn : ¬ (c : Int) < ((lget d.f1 q).length : Int) := by
      have : ¬ (c : Int) < ((rw' d q).length : Int) := by omega
      exact this
    rw [dfa_Order_l5.eq_2, hq, if_neg hcn, List.drop_of_length_le (by omega)]
    exact ⟨nb, by simp [ordR], hn, hp⟩
  | m + 1, c, f + 1, nb, L, acc, hc, hf, hn, hp, hL, hz, ha => by
    have hc' : c < (rw' d q).length := by omega
    have hcI : (c : Int) < ((lget d.f1 q).length : Int) := by
      have : (c : Int) < ((rw' d q).length : Int) := by omega
      exact this
    have he := h.entk hq0.1 hq0.2 (c := (c : Int)) (by omega) hcI
    have h256 : (rw' d q).length ≤ 256 := h.row256 _ (mem_lget hq0.1 hq0.2)
    have hn2 := h.n2
    have ge : lget (lget d.f1 q) (c : Int) = (rw' d q)[c] := lget_lt (rw' d q) c hc'
    have hmx : (rw' d q)[c] ∈ rw' d q := List.getElem_mem hc'
    rw [dfa_Order_l5.eq_2, hq, if_pos hcI, if_pos ⟨by omega, hcI⟩]
    unfold dfa_Order_c4 dfa_Order_c3
    rw [hq, ge, List.drop_eq_getElem_cons hc', List.map_cons]
    rw [ge] at he
    have hd2 : ordR L ((rw' d q)[c] :: (rw' d q).drop (c + 1)) = ordR (addO L (rw' d q)[c]) ((rw' d q).drop (c + 1)) := rfl
    rw [hd2]
    generalize hto : (rw' d q)[c] = to at he
    have hlen : ∀ v : Int, (acc ++ [v]).length * 8 ≤ 140737488355328 := fun v => by simp; omega
    have stab : ∀ L1 : List Int, (∀ x ∈ L1, 0 ≤ x) → (0 ≤ to → to ∈ L1) → pl (ordR L1 ((rw' d q).drop (c + 1))) to = pl L1 to := by
      intro L1 h1 h2
      obtain ⟨k, hk⟩ := ordR_pre ((rw' d q).drop (c + 1)) L1
      by_cases a : 0 ≤ to
      · rw [hk]; exact pl_app k (h2 a)
      · rw [pl_not (fun z => a (h1 _ z)), pl_not (fun z => ?_)]
        rcases ordR_from _ _ z with z | z
        · exact a (h1 _ z)
        · exact a z.2
    by_cases a : 0 ≤ to
    · have g : 0 ≤ to ∧ to < (nb.length : Int) := ⟨a, by omega⟩
      rw [if_pos a, if_pos g, hp to a (by omega), Option.bind_some]
      by_cases b : to ∈ L
      · obtain ⟨j, j1, j2, j3⟩ := pl_get b
        have hadd : addO L to = L := by unfold addO; rw [if_neg (fun k => k.2 b)]
        rw [if_neg (by rw [j2]; simp), if_pos a, if_pos g, if_pos (hlen _), w64s (by omega) (by omega), hadd, stab L hL (fun _ => b)]
        obtain ⟨nb', n1, n2, n3⟩ := order_l5 h rec23 x17 x19 L0 i q hq hq0 m (c + 1) f nb L (acc ++ [pl L to]) (by omega) (by omega) hn hp hL (by omega) (by simp [ha])
        refine ⟨nb', ?_, n2, n3⟩
        rw [List.append_assoc] at n1
        exact_mod_cast n1
      · have hadd : addO L to = L ++ [to] := by unfold addO; rw [if_pos ⟨a, b⟩]
        have hpl : pl (L ++ [to]) to = (L.length : Int) := by unfold pl; rw [plc_last L 0 b]; omega
        have hL1 : ∀ x ∈ L ++ [to], 0 ≤ x := fun x hx => by
          rcases List.mem_append.1 hx with k | k
          · exact hL x k
          · have e : x = to := by simpa using k
            subst e; exact a
        have g' : 0 ≤ to ∧ to < ((lset nb to (L.length : Int)).length : Int) := ⟨a, by rw [lset_len]; omega⟩
        have hgetI : ∀ (l : List Int) (i q v : Int), 0 ≤ i → i < (l.length : Int) → 0 ≤ q → lget (lset l i v) q = if q = i then v else lget l q := by
          intro l i q v h0 h1 hq
          unfold lget lset
          rw [List.getD, List.getD, List.getElem?_set]
          by_cases e : i.toNat = q.toNat
          · rw [if_pos e, if_pos (by omega), if_pos (by omega)]; rfl
          · rw [if_neg e, if_neg (by omega)]
        rw [pl_not b, if_pos (by decide), if_pos g, if_pos (by simp; omega), if_pos a, if_pos g', hgetI nb to to _ a (by omega) a, if_pos rfl, if_pos (hlen _), w64s (by omega) (by omega), hadd, stab _ hL1 (fun _ => by simp), hpl]
        obtain ⟨nb', n1, n2, n3⟩ := order_l5 h rec23 x17 x19 L0 i q hq hq0 m (c + 1) f (lset nb to (L.length : Int)) (L ++ [to]) (acc ++ [(L.length : Int)]) (by omega) (by omega) (by rw [lset_len]; exact hn) (fun x h0 h1 => by
          rw [hgetI nb to x _ a (by omega) h0]
          by_cases e : x = to
          · rw [if_pos e, e, hpl]
          · rw [if_neg e, hp x h0 h1]; unfold pl; rw [plc_other (fun k => e k.symm)]) hL1 (by simp; omega) (by simp [ha])
        refine ⟨nb', ?_, n2, n3⟩
        rw [List.append_assoc] at n1
        exact_mod_cast n1
    · have e1 : to = -1 := by omega
      have hadd : addO L to = L := by unfold addO; rw [if_neg (fun k => a k.1)]
      rw [if_neg a, Option.bind_some, if_neg (by decide), if_neg a, if_pos (hlen _), w64s (by omega) (by omega), hadd, stab L hL (fun k => absurd k a), pl_not (fun z => a (hL _ z))]
      obtain ⟨nb', n1, n2, n3⟩ := order_l5 h rec23 x17 x19 L0 i q hq hq0 m (c + 1) f nb L (acc ++ [(-1 : Int)]) (by omega) (by omega) hn hp hL (by omega) (by simp [ha])
      refine ⟨nb', ?_, n2, n3⟩
      rw [List.append_assoc] at n1
      rw [e1]
      exact_mod_cast n1
theorem OD_take {d : S50} (hd : Dr d) {L : List Int} {i : Nat} (h : OI d L i) (hi : i < L.length) (m : List Int) (hm : ordR L (rw' d (lget L (i : Int))) = L ++ m) :
    ((L ++ m).take (i + 1)).map (fun q => (rw' d q).map (pl (L ++ m))) = (L.take i).map (fun q => (rw' d q).map (pl L)) ++ [(rw' d (lget L (i : Int))).map (pl (L ++ m))] := by
  rw [List.take_append_of_le_length (by omega), ← List.take_append_getElem hi, List.map_append, List.map_singleton, lget_lt L i hi]
  congr 1
  apply List.map_congr_left
  intro q hq
  obtain ⟨j, hj, rfl⟩ := List.getElem_of_mem hq
  have hj' : j < i := by simp at hj; omega
  have hjL : j < L.length := by omega
  have e : (L.take i)[j] = lget L (j : Int) := by rw [List.getElem_take, lget_lt L j hjL]
  have hrg := h.rng _ (mem_lget (l := L) (i := (j : Int)) (by omega) (by omega))
  rw [e]
  refine row_pl (row_ge hd hrg.1 hrg.2) (fun x hx h0 => h.cls j hj' x hx h0) fun x hx => ?_
  have := (h.next hd hi).rng x (by rw [hm]; exact hx)
  exact this.1
theorem order_l6 {d : S50} (hd : Dr d) : ∀ (m : Nat) (nb L : List Int) (i : Nat), OI d L i → d.f1.length < i + m → nb.length = d.f1.length → (∀ x : Int, 0 ≤ x → x < (d.f1.length : Int) → lget nb x = pl L x) →
    dfa_Order_l6 2000 d m nb ((L.take i).map fun q => (rw' d q).map (pl L)) ((L.take i).map fun q => lget d.f2 q) L (i : Int) = some (OD d (obs d m L i))
  | 0, nb, L, i, h, hm, _, _ => by
    have := h.len
    have := h.le
    omega
  | m + 1, nb, L, i, h, hm, hn, hp => by
    have hlen := h.len
    have hle := h.le
    have hn2 := hd.n2
    rw [dfa_Order_l6.eq_2, obs]
    by_cases a : i < L.length
    · have hmem : lget L (i : Int) ∈ L := mem_lget (by omega) (by omega)
      have hq := h.rng _ hmem
      have hm2 := hd.ml
      have h256 : (rw' d (lget L (i : Int))).length ≤ 256 := hd.row256 _ (mem_lget hq.1 hq.2)
      have h256' : (lget d.f1 (lget L (i : Int))).length ≤ 256 := h256
      have hnx := h.next hd a
      have hnl := hnx.len
      obtain ⟨k, hk⟩ := ordR_pre (rw' d (lget L (i : Int))) L
      obtain ⟨nb', n1, n2, n3⟩ := order_l5 hd (dfa_Order_l6 2000 d m) ((L.take i).map fun q => (rw' d q).map (pl L)) ((L.take i).map fun q => lget d.f2 q) L i (lget L (i : Int)) rfl hq (rw' d (lget L (i : Int))).length 0 2000 nb L [] (by omega) (by omega) hn hp (fun x hx => (h.rng x hx).1) (by omega) rfl
      rw [Int.natCast_zero, List.drop_zero, List.nil_append] at n1
      rw [List.drop_zero] at n3
      rw [if_pos a, if_pos (by omega), if_pos ⟨by omega, by omega⟩, if_pos hq, if_pos ⟨by omega, by omega, by omega⟩, if_pos ⟨by omega, by omega⟩, if_pos hq, n1]
      unfold dfa_Order_c2 dfa_Order_c1
      rw [hk] at hnx hnl n3 ⊢
      have hgl : lget (L ++ k) (i : Int) = lget L (i : Int) := lget_pre a
      rw [if_pos (by simp; omega), if_pos ⟨by omega, by simp; omega⟩, hgl, if_pos ⟨hq.1, by omega⟩, if_pos (by simp; omega), w64s (by omega) (by omega)]
      have ih := order_l6 hd m nb' (L ++ k) (i + 1) hnx (by omega) n2 n3
      rw [OD_take hd h a k hk] at ih
      have e2 : ((L ++ k).take (i + 1)).map (fun q => lget d.f2 q) = (L.take i).map (fun q => lget d.f2 q) ++ [lget d.f2 (lget L (i : Int))] := by
        rw [List.take_append_of_le_length (by omega), ← List.take_append_getElem a, List.map_append, List.map_singleton, lget_lt L i a]
      rw [e2] at ih
      exact_mod_cast ih
    · rw [if_neg a, if_neg (by omega), dfa_Order_c0]
      have e : i = L.length := by omega
      rw [e, List.take_length]; rfl
theorem lget_neg (N : Nat) (x : Int) (h0 : 0 ≤ x) (h1 : x < (N : Int)) : lget (List.replicate N (-1 : Int)) x = -1 := by
  unfold lget
  rw [List.getD, List.getElem?_replicate, if_pos (by omega)]; rfl
theorem order_l8 {d : S50} (hd : Dr d) : ∀ (m i fuel : Nat), i + m = d.f1.length → m < fuel →
    dfa_Order_l8 2000 d fuel (List.replicate i (-1 : Int) ++ List.replicate m (0 : Int)) (i : Int) = dfa_Order_c7 2000 d (List.replicate d.f1.length (-1 : Int))
  | 0, i, f + 1, hi, _ => by
    rw [dfa_Order_l8.eq_2, if_neg (by simp; omega), show i = d.f1.length by omega]; simp
  | m + 1, i, f + 1, hi, hf => by
    have hn2 := hd.n2
    have ih := order_l8 hd m (i + 1) f (by omega) (by omega)
    rw [dfa_Order_l8.eq_2, if_pos (by simp; omega), if_pos ⟨by omega, by simp; omega⟩, w64s (by omega) (by omega)]
    have e : lset (List.replicate i (-1 : Int) ++ List.replicate (m + 1) (0 : Int)) (i : Int) (-1) = List.replicate (i + 1) (-1 : Int) ++ List.replicate m (0 : Int) := by
      unfold lset
      rw [Int.toNat_natCast, List.set_append_right _ _ (by simp), show i - (List.replicate i (-1 : Int)).length = 0 by simp, List.replicate_succ, List.set_cons_zero, List.replicate_succ', List.append_assoc]; rfl
    rw [e]
    exact_mod_cast ih
theorem order_eq {d : S50} (hd : Dr d) : dfa_Order 2000 d = some (ORD d) := by
  have h1 := hd.n1
  have h2 := hd.n2
  unfold dfa_Order
  rw [if_pos ⟨by omega, by omega, by omega⟩, Int.toNat_natCast]
  have e := order_l8 hd d.f1.length 0 2000 (by omega) (by omega)
  rw [Int.natCast_zero, List.replicate_zero, List.nil_append] at e
  rw [e, dfa_Order_c7, if_neg (by omega), if_pos ⟨by omega, by simp; omega⟩]
  have := order_l6 hd 2000 (lset (List.replicate d.f1.length (-1 : Int)) 0 0) [0] 0 (OI.start hd) (by omega) (by rw [lset_len, List.length_replicate]) (fun x h0 hx => by
    unfold lset
    by_cases q : x = 0
    · subst q
      unfold lget pl plc
      rw [List.getD, List.getElem?_set_self (by simp; omega)]; rfl
    · have hne : (0 : Int).toNat ≠ x.toNat := by omega
      have e2 : pl [0] x = -1 := pl_not (by simpa using q)
      refine Eq.trans ?_ ((lget_neg d.f1.length x h0 hx).trans e2.symm)
      unfold lget
      rw [List.getD, List.getD, List.getElem?_set_ne hne])
  exact this
end Go.Avl.T3
/- Machines in one state: the marks of texts stay when a machine is trimmed, and put in order. -/
namespace Go.Avl.T3
open Go Go.RowKit Go.Proofs Go.Avl
set_option linter.all false
set_option maxRecDepth 10000

/-- The state after so many bytes. -/
def rn (d : S50) (q : Int) (s : ByteArray) : Nat → Int
  | 0 => q
  | i + 1 => stp d (rn d q s i) (byteAt s i)
theorem rn_dead {d : S50} {q : Int} {s : ByteArray} {i : Nat} (h : rn d q s i = -1) : ∀ n, rn d q s (i + n) = -1
  | 0 => h
  | n + 1 => by rw [← Nat.add_assoc, rn, rn_dead h n, stp_neg]
theorem run_l1 {d : S50} (hb : VB d.f0) (q : Int) (s : ByteArray) (hs : s.size ≤ 1000) : ∀ (m i fuel : Nat), i + m = s.size → m < fuel → dfa_Run_l1 2000 d s fuel (rn d q s i) (i : Int) = some (rn d q s s.size)
  | 0, i, f + 1, hi, _ => by
    rw [dfa_Run_l1.eq_2, if_neg (by omega), Option.bind_some, if_neg (by decide), dfa_Run_c0, show i = s.size by omega]
  | m + 1, i, f + 1, hi, hf => by
    have hu := byteAt_u8 s i
    have ih := run_l1 hb q s hs m (i + 1) f (by omega) (by omega)
    rw [dfa_Run_l1.eq_2, if_pos (by omega), Option.bind_some]
    by_cases a : rn d q s i = -1
    · have := rn_dead a (m + 1)
      rw [if_neg (by simpa using a), dfa_Run_c0, a, ← hi, this]
    · rw [if_pos (by simpa using a), if_pos ⟨by omega, by omega⟩, step_eq hb _ _ hu.1 (by omega), Option.bind_some, w64s (by omega) (by omega)]
      rw [rn] at ih
      exact_mod_cast ih
/-- The mark of a text. -/
def hs (d : S50) (s : ByteArray) : Int := mk d (rn d 0 s s.size)
theorem dhas_eq {d : S50} (hb : VB d.f0) (s : ByteArray) (hz : s.size ≤ 1000) : dfa_Has 2000 d s = some (hs d s) := by
  have := run_l1 hb 0 s hz s.size 0 2000 (by omega) (by omega)
  unfold dfa_Has dfa_Run
  have e : dfa_Run_l1 2000 d s 2000 0 0 = some (rn d 0 s s.size) := this
  rw [e, Option.bind_some, mark_eq, Option.bind_some]; rfl
theorem stp_in {d : S50} (h : Dr d) {q c : Int} (h0 : 0 ≤ q) (h1 : q < (d.f1.length : Int)) (c0 : 0 ≤ c) (c1 : c < 256) :
    0 ≤ vget d.f0 c ∧ vget d.f0 c < ((rw' d q).length : Int) ∧ stp d q c = lget (rw' d q) (vget d.f0 c) := by
  obtain ⟨b, rfl⟩ := Int.eq_ofNat_of_zero_le c0
  have hk := h.rowk h0 h1
  have hb := h.vb (b : Int)
  have hl := kcl_lt (v := d.f0) (b := b) (by omega)
  have hlt : vget d.f0 (b : Int) < ((rw' d q).length : Int) := by show _ < ((lget d.f1 q).length : Int); omega
  refine ⟨hb.1, hlt, ?_⟩
  have hlt' : vget d.f0 (b : Int) < ((lget d.f1 q).length : Int) := hlt
  unfold stp
  rw [if_neg (by omega)]
theorem stp_rng {d : S50} (h : Dr d) {q c : Int} (hq : -1 ≤ q ∧ q < (d.f1.length : Int)) (c0 : 0 ≤ c) (c1 : c < 256) : -1 ≤ stp d q c ∧ stp d q c < (d.f1.length : Int) := by
  have h1 := h.n1
  by_cases a : q = -1
  · rw [a, stp_neg]; omega
  · obtain ⟨k1, k2, k3⟩ := stp_in h (q := q) (c := c) (by omega) (by omega) c0 c1
    rw [k3]
    exact h.ent _ (mem_lget (by omega) hq.2) _ (mem_lget k1 k2)
theorem rn_rng {d : S50} (h : Dr d) {q : Int} (hq : -1 ≤ q ∧ q < (d.f1.length : Int)) (s : ByteArray) : ∀ i, -1 ≤ rn d q s i ∧ rn d q s i < (d.f1.length : Int)
  | 0 => hq
  | i + 1 => by
    have hu := byteAt_u8 s i
    rw [rn]; exact stp_rng h (rn_rng h hq s i) hu.1 (by omega)
theorem mk_ge {d : S50} (h : Dr d) (q : Int) : -1 ≤ mk d q ∧ mk d q < 32768 := by
  unfold mk
  split
  · omega
  · exact h.mark _ (mem_lget (by omega) (by omega))
/-! Trimmed. -/
theorem TRM_row {d : S50} (A : List Bool) {q : Int} (h0 : 0 ≤ q) (h1 : q < (d.f1.length : Int)) : rw' (TRM d A) q = (rw' d q).map (tr A) := by
  obtain ⟨j, rfl⟩ := Int.eq_ofNat_of_zero_le h0
  show lget (d.f1.map fun r => r.map (tr A)) (j : Int) = (lget d.f1 (j : Int)).map (tr A)
  rw [lget_lt _ j (by simp; omega), lget_lt _ j (by omega), List.getElem_map]
theorem TRM_Dr {d : S50} (h : Dr d) (A : List Bool) : Dr (TRM d A) := by
  have hl : (TRM d A).f1.length = d.f1.length := by show (d.f1.map _).length = _; rw [List.length_map]
  have h1 := h.n1
  refine ⟨by rw [hl]; exact h.n1, by rw [hl]; exact h.n2, by rw [hl]; exact h.ml, h.vb, h.gap, fun r hr => ?_, fun r hr x hx => ?_, h.mark⟩
  · obtain ⟨r', hr', rfl⟩ := List.mem_map.1 (show r ∈ d.f1.map fun r => r.map (tr A) from hr)
    rw [List.length_map]; exact h.row r' hr'
  · obtain ⟨r', hr', rfl⟩ := List.mem_map.1 (show r ∈ d.f1.map fun r => r.map (tr A) from hr)
    obtain ⟨y, hy, rfl⟩ := List.mem_map.1 hx
    have := h.ent r' hr' y hy
    rw [hl]
    unfold tr
    split
    · omega
    · exact this
theorem lget_map {α β : Type} [Inhabited α] [Inhabited β] (f : α → β) (l : List α) {i : Int} (h0 : 0 ≤ i) (h1 : i < (l.length : Int)) : lget (l.map f) i = f (lget l i) := by
  obtain ⟨j, rfl⟩ := Int.eq_ofNat_of_zero_le h0
  rw [lget_lt _ j (by simp; omega), lget_lt _ j (by omega), List.getElem_map]
theorem AL_back {d : S50} (h : Dr d) {q c : Int} (h0 : 0 ≤ q) (h1 : q < (d.f1.length : Int)) (c0 : 0 ≤ c) (c1 : c < 256) (hn : 0 ≤ stp d q c) (k : AL d (stp d q c)) : AL d q := by
  obtain ⟨k1, k2, k3⟩ := stp_in h h0 h1 c0 c1
  obtain ⟨r, r1, r2⟩ := k
  rw [k3] at hn r1
  obtain ⟨b, hb⟩ := Int.eq_ofNat_of_zero_le k1
  rw [hb] at hn r1 k2
  exact ⟨r, (DR.step .refl k2 hn).trans r1, r2⟩
theorem trim_sim {d : S50} (h : Dr d) {A : List Bool} (hA : AS d A) (s : ByteArray) : ∀ i, rn (TRM d A) 0 s i = rn d 0 s i ∨ (rn (TRM d A) 0 s i = -1 ∧ (rn d 0 s i = -1 ∨ ¬ AL d (rn d 0 s i)))
  | 0 => .inl rfl
  | i + 1 => by
    have hu := byteAt_u8 s i
    have h1 := h.n1
    have hr := rn_rng h (q := 0) (by omega) s i
    have hr' := rn_rng h (q := 0) (by omega) s (i + 1)
    have hl : (TRM d A).f1.length = d.f1.length := by show (d.f1.map _).length = _; rw [List.length_map]
    rcases trim_sim h hA s i with e | ⟨e1, e2⟩
    · by_cases a : rn d 0 s i = -1
      · left; rw [rn, rn, e, a, stp_neg, stp_neg]
      · obtain ⟨k1, k2, k3⟩ := stp_in h (q := rn d 0 s i) (c := byteAt s i) (by omega) hr.2 hu.1 (by omega)
        obtain ⟨m1, m2, m3⟩ := stp_in (TRM_Dr h A) (q := rn d 0 s i) (c := byteAt s i) (by omega) (by rw [hl]; exact hr.2) hu.1 (by omega)
        have hst : stp (TRM d A) (rn d 0 s i) (byteAt s i) = tr A (stp d (rn d 0 s i) (byteAt s i)) := by
          rw [m3, k3, TRM_row A (by omega) hr.2]
          exact lget_map (tr A) _ k1 k2
        have hrg := stp_rng h hr hu.1 (c := byteAt s i) (by omega)
        rw [rn, rn, e, hst]
        unfold tr
        split
        · rename_i c
          right
          refine ⟨rfl, .inr fun k => ?_⟩
          have := (hA.2 _ c.1 hrg.2).2 k
          rw [c.2] at this; cases this
        · exact .inl rfl
    · right
      refine ⟨by rw [rn, e1, stp_neg], ?_⟩
      rcases e2 with e2 | e2
      · left; rw [rn, e2, stp_neg]
      · by_cases a : rn d 0 s i = -1
        · left; rw [rn, a, stp_neg]
        · have hrg := stp_rng h hr hu.1 (c := byteAt s i) (by omega)
          by_cases b : stp d (rn d 0 s i) (byteAt s i) = -1
          · left; rw [rn, b]
          · right
            rw [rn]
            intro k
            exact e2 (AL_back h (by omega) hr.2 hu.1 (by omega) (by omega) k)
theorem trim_has {d : S50} (h : Dr d) {A : List Bool} (hA : AS d A) (s : ByteArray) : hs (TRM d A) s = hs d s := by
  unfold hs
  rcases trim_sim h hA s s.size with e | ⟨e1, e2⟩
  · rw [e]; rfl
  · rw [e1, mk_neg]
    rcases e2 with e2 | e2
    · rw [e2, mk_neg]
    · have := (mk_ge h (rn d 0 s s.size)).1
      by_cases a : 0 ≤ mk d (rn d 0 s s.size)
      · exact absurd ⟨_, .refl, a⟩ e2
      · omega
/-! Put in order. -/
theorem ORD_len (d : S50) : (ORD d).f1.length = (OL d).length := by show ((OL d).map _).length = _; rw [List.length_map]
theorem pl_lt {L : List Int} (x : Int) : -1 ≤ pl L x ∧ pl L x < (L.length : Int) := by
  by_cases h : x ∈ L
  · obtain ⟨j, j1, j2, _⟩ := pl_get h; omega
  · rw [pl_not h]; omega
theorem ORD_Dr {d : S50} (h : Dr d) : Dr (ORD d) := by
  have hO := OL_OI h
  have hl := ORD_len d
  have hlen := hO.len
  have hn := h.n2
  have hm := h.ml
  obtain ⟨m, hm0⟩ := hO.hd
  refine ⟨by rw [hl, hm0]; simp, by rw [hl]; omega, by rw [hl]; show ((OL d).map _).length = _; rw [List.length_map], h.vb, h.gap, fun r hr => ?_, fun r hr x hx => ?_, fun m hm => ?_⟩
  · obtain ⟨q, hq, rfl⟩ := List.mem_map.1 (show r ∈ (OL d).map fun q => (rw' d q).map (pl (OL d)) from hr)
    have := hO.rng q hq
    rw [List.length_map]; exact h.rowk this.1 this.2
  · obtain ⟨q, hq, rfl⟩ := List.mem_map.1 (show r ∈ (OL d).map fun q => (rw' d q).map (pl (OL d)) from hr)
    obtain ⟨y, hy, rfl⟩ := List.mem_map.1 hx
    rw [hl]; exact pl_lt y
  · obtain ⟨q, hq, rfl⟩ := List.mem_map.1 (show m ∈ (OL d).map fun q => lget d.f2 q from hm)
    have := hO.rng q hq
    exact h.mark _ (mem_lget this.1 (by omega))
theorem ORD_row {d : S50} {q : Int} (hq : q ∈ OL d) : rw' (ORD d) (pl (OL d) q) = (rw' d q).map (pl (OL d)) := by
  obtain ⟨j, j1, j2, j3⟩ := pl_get hq
  rw [j2]
  show lget ((OL d).map fun q => (rw' d q).map (pl (OL d))) (j : Int) = _
  rw [lget_map _ _ (by omega) (by omega), j3]
theorem ORD_mk {d : S50} (h : Dr d) {q : Int} (hq : q ∈ OL d) : mk (ORD d) (pl (OL d) q) = mk d q := by
  have hr := (OL_OI h).rng q hq
  have hm := h.ml
  obtain ⟨j, j1, j2, j3⟩ := pl_get hq
  have hl := ORD_len d
  have h1 : (0 : Int) ≤ (j : Int) := by omega
  rw [mk_in (ORD_Dr h) (by omega) (by rw [hl]; omega), mk_in h hr.1 hr.2, j2]
  show lget ((OL d).map fun q => lget d.f2 q) (j : Int) = _
  rw [lget_map _ _ (by omega) (by omega), j3]
theorem ORD_stp {d : S50} (h : Dr d) {q c : Int} (hq : q ∈ OL d) (c0 : 0 ≤ c) (c1 : c < 256) : stp (ORD d) (pl (OL d) q) c = pl (OL d) (stp d q c) ∧ (stp d q c = -1 ∨ stp d q c ∈ OL d) := by
  have hO := OL_OI h
  have hr := hO.rng q hq
  obtain ⟨k1, k2, k3⟩ := stp_in h hr.1 hr.2 c0 c1
  obtain ⟨j, j1, j2, j3⟩ := pl_get hq
  have hl := ORD_len d
  obtain ⟨m1, m2, m3⟩ := stp_in (ORD_Dr h) (q := pl (OL d) q) (c := c) (by omega) (by rw [hl]; omega) c0 c1
  refine ⟨?_, ?_⟩
  · rw [m3, k3, ORD_row hq]
    exact lget_map (pl (OL d)) _ k1 k2
  · have hrg := stp_rng h (q := q) (c := c) (by omega) c0 c1
    by_cases a : stp d q c = -1
    · exact .inl a
    · right
      have := hO.cls j (by omega) (stp d q c) (by rw [j3, k3]; exact mem_lget k1 k2) (by omega)
      exact this
theorem ORD_zero {d : S50} (h : Dr d) : (0 : Int) ∈ OL d ∧ pl (OL d) 0 = 0 := by
  obtain ⟨m, hm⟩ := (OL_OI h).hd
  rw [hm]
  exact ⟨by simp, rfl⟩
theorem order_sim {d : S50} (h : Dr d) (s : ByteArray) : ∀ i, rn (ORD d) 0 s i = pl (OL d) (rn d 0 s i) ∧ (rn d 0 s i = -1 ∨ rn d 0 s i ∈ OL d)
  | 0 => by
    obtain ⟨z1, z2⟩ := ORD_zero h
    exact ⟨z2.symm, .inr z1⟩
  | i + 1 => by
    have hu := byteAt_u8 s i
    obtain ⟨i1, i2⟩ := order_sim h s i
    have hneg : pl (OL d) (-1) = -1 := pl_not fun k => by have := ((OL_OI h).rng _ k).1; omega
    rcases i2 with e | e
    · rw [rn, rn, i1, e, hneg, stp_neg, stp_neg]
      exact ⟨hneg.symm, .inl rfl⟩
    · rw [rn, rn, i1]
      exact ORD_stp h e hu.1 (by omega)
theorem order_has {d : S50} (h : Dr d) (s : ByteArray) : hs (ORD d) s = hs d s := by
  unfold hs
  obtain ⟨i1, i2⟩ := order_sim h s s.size
  rw [i1]
  rcases i2 with e | e
  · have hneg : pl (OL d) (-1) = -1 := pl_not fun k => by have := ((OL_OI h).rng _ k).1; omega
    rw [e, hneg, mk_neg, mk_neg]
  · exact ORD_mk h e
end Go.Avl.T3
/- DfaKeeps: the plain law. -/
namespace Go.Avl.T3
open Go Go.RowKit Go.Proofs Go.Avl
set_option linter.all false
set_option maxRecDepth 10000

theorem awake08k : bosketlaw08_awake 2000 = some true := by decide +kernel
theorem rtrimo_l4 {d : S50} (h : Dr d) (rec14 : List (List Int) → Int → Option S50) (a : List Bool) (ha : a.length = d.f1.length) (acc : List (List Int)) (i : Nat) (hi : i < d.f1.length) : ∀ (m c fuel : Nat), c + m = (rw' d i).length → m < fuel →
    bosketref08_Trim_own_l4 2000 rec14 d a acc (i : Int) fuel (((rw' d i).take c).map (tr a)) (c : Int) = bosketref08_Trim_own_c2 2000 rec14 acc (i : Int) ((rw' d i).map (tr a))
  | 0, c, f + 1, hc, _ => by
    have hcn : ¬ (c : Int) < ((lget d.f1 (i : Int)).length : Int) := by
      have : ¬ (c : Int) < ((rw' d i).length : Int) := by omega
      exact this
    rw [bosketref08_Trim_own_l4.eq_2, if_pos ⟨by omega, by omega⟩, if_neg hcn, List.take_of_length_le (by omega)]
  | m + 1, c, f + 1, hc, hf => by
    have hc' : c < (rw' d i).length := by omega
    have hcI : (c : Int) < ((lget d.f1 (i : Int)).length : Int) := by
      have : (c : Int) < ((rw' d i).length : Int) := by omega
      exact this
    have he := h.entk (i := (i : Int)) (by omega) (by omega) (c := (c : Int)) (by omega) hcI
    have h256 : (rw' d i).length ≤ 256 := h.row256 _ (mem_lget (l := d.f1) (i := (i : Int)) (by omega) (by omega))
    have ge : lget (lget d.f1 (i : Int)) (c : Int) = (rw' d i)[c] := lget_lt (rw' d i) c hc'
    have g : 0 ≤ (i : Int) ∧ (i : Int) < (d.f1.length : Int) := ⟨by omega, by omega⟩
    have ih := rtrimo_l4 h rec14 a ha acc i hi m (c + 1) f (by omega) (by omega)
    have hnext : ((rw' d i).take (c + 1)).map (tr a) = ((rw' d i).take c).map (tr a) ++ [tr a (rw' d i)[c]] := by
      rw [← List.take_append_getElem hc', List.map_append]; rfl
    rw [hnext] at ih
    rw [bosketref08_Trim_own_l4.eq_2, if_pos g, if_pos hcI, if_pos g, if_pos ⟨by omega, hcI⟩]
    unfold bosketref08_Trim_own_c3
    have hlen : ∀ v : Int, (((rw' d i).take c).map (tr a) ++ [v]).length * 8 ≤ 140737488355328 := fun v => by simp; omega
    rw [ge] at he ⊢
    unfold tr at ih
    by_cases b : 0 ≤ (rw' d i)[c]
    · rw [if_pos b, if_pos ⟨b, by omega⟩, Option.bind_some, w64s (by omega) (by omega)]
      cases e : lget a (rw' d i)[c] with
      | false =>
        rw [if_pos ⟨b, e⟩] at ih
        rw [if_pos (by decide), if_pos (hlen _)]
        exact_mod_cast ih
      | true =>
        rw [if_neg (by rw [e]; simp)] at ih
        rw [if_neg (by decide), if_pos (hlen _)]
        exact_mod_cast ih
    · rw [if_neg (fun k => b k.1)] at ih
      rw [if_neg b, Option.bind_some, if_neg (by decide), if_pos (hlen _), w64s (by omega) (by omega)]
      exact_mod_cast ih
theorem rtrimo_l5 {d : S50} (h : Dr d) (a : List Bool) (ha : a.length = d.f1.length) : ∀ (m i fuel : Nat), i + m = d.f1.length → m < fuel →
    bosketref08_Trim_own_l5 2000 d a fuel ((d.f1.take i).map fun r => r.map (tr a)) (i : Int) = some (TRM d a)
  | 0, i, f + 1, hi, _ => by
    rw [bosketref08_Trim_own_l5.eq_2, if_neg (by omega), bosketref08_Trim_own_c0, List.take_of_length_le (by omega)]; rfl
  | m + 1, i, f + 1, hi, hf => by
    have hn := h.n2
    have hi' : i < d.f1.length := by omega
    have h256 : (rw' d i).length ≤ 256 := h.row256 _ (mem_lget (l := d.f1) (i := (i : Int)) (by omega) (by omega))
    have ih := rtrimo_l5 h a ha m (i + 1) f (by omega) (by omega)
    have e := rtrimo_l4 h (bosketref08_Trim_own_l5 2000 d a f) a ha ((d.f1.take i).map fun r => r.map (tr a)) i hi' (rw' d i).length 0 2000 (by omega) (by omega)
    rw [Int.natCast_zero, List.take_zero, List.map_nil] at e
    rw [bosketref08_Trim_own_l5.eq_2, if_pos (by omega), e, bosketref08_Trim_own_c2, if_pos (by simp; omega), bosketref08_Trim_own_c1, w64s (by omega) (by omega)]
    have : (d.f1.take (i + 1)).map (fun r => r.map (tr a)) = (d.f1.take i).map (fun r => r.map (tr a)) ++ [(rw' d i).map (tr a)] := by
      rw [← List.take_append_getElem hi', List.map_append, show rw' d i = d.f1[i] from lget_lt _ i hi']; rfl
    rw [this] at ih
    exact_mod_cast ih
theorem rtrimo_eq {d : S50} (h : Dr d) : ∃ A, AS d A ∧ bosketref08_Trim_own 2000 d = some (TRM d A) := by
  obtain ⟨A, a1, a2⟩ := ralive_eq h
  have hn := h.n2
  have hm := h.ml
  refine ⟨A, a2, ?_⟩
  unfold bosketref08_Trim_own
  rw [a1, Option.bind_some, if_pos (by simp; omega)]
  have := rtrimo_l5 h A a2.1 d.f1.length 0 2000 (by omega) (by omega)
  rw [Int.natCast_zero, List.take_zero] at this
  exact this
theorem TRM_szk {d : S50} (h : Dr d) (A : List Bool) : (TRM d A).f1.length ≤ 1000 ∧ (TRM d A).f2.length ≤ 1000 ∧ ∀ r ∈ (TRM d A).f1, r.length ≤ 1000 := by
  have h2 := h.n2
  have h3 := h.ml
  refine ⟨by show (d.f1.map _).length ≤ 1000; simpa using h2, by show d.f2.length ≤ 1000; omega, fun r hr => ?_⟩
  obtain ⟨r', hr', rfl⟩ := List.mem_map.1 (show r ∈ d.f1.map fun r => r.map (tr A) from hr)
  have := h.row256 r' hr'
  rw [List.length_map]; omega
theorem bosketlaw08_DfaKeeps_true (a0 : S50) (a1 : ByteArray) (a2 : (Vector Int 2)) (h0 : wf50 a0) (h1 : wf9 a1) (h2 : a1.size ≤ 140737488351232) (h3 : wf51 a2) : ∃ k, bosketlaw08_DfaKeeps k a0 a1 a2 = some true := by
  refine ⟨2000, ?_⟩
  unfold bosketlaw08_DfaKeeps
  rw [awake08k, Option.bind_some, if_neg (by decide)]
  obtain ⟨sm, s1, s2⟩ := small_some a0 (Nat.le_refl 2000)
  rw [s1, Option.bind_some]
  cases sm with
  | false => rw [if_pos (by decide), Option.bind_some, if_pos rfl]
  | true =>
    obtain ⟨n1, n2, n3⟩ := s2 rfl
    have hv : VB a0.f0 := bytes_of h0
    rw [if_neg (by decide), rdright_eq hv n3 (by omega), Option.bind_some]
    cases hr : rgB a0 with
    | false => rfl
    | true =>
      have h : Dr a0 := (rgB_iff hv (by omega)).1 hr
      rw [if_neg (by decide), Option.bind_some]
      by_cases z : (30 : Int) < (a1.size : Int)
      · rw [if_pos (by simpa using z)]
      rw [if_neg (by simpa using z)]
      obtain ⟨A, a3, t1⟩ := trim_eq h
      obtain ⟨A1, a4, t2⟩ := rtrim_eq h
      obtain ⟨A2, a5, t3⟩ := rtrimo_eq h
      obtain rfl := a3.uniq a4
      obtain rfl := a3.uniq a5
      have hT := TRM_Dr h A
      have hO := ORD_Dr hT
      have hs' : a1.size ≤ 1000 := by omega
      have e1 := trim_has h a3 a1
      have e2 := order_has h a1
      have e3 := order_has hT a1
      have hl : (TRM a0 A).f1.length = a0.f1.length := by show (a0.f1.map _).length = _; rw [List.length_map]
      have hlen : (ORD (TRM a0 A)).f1.length ≤ a0.f1.length := by rw [ORD_len, ← hl]; exact (OL_OI hT).len
      rw [dhas_eq h.vb a1 hs', Option.bind_some, t1, Option.bind_some, order_eq hT, Option.bind_some, Option.bind_some, dhas_eq hT.vb a1 hs', Option.bind_some, e1, if_neg (by simp), order_eq h, Option.bind_some, dhas_eq (ORD_Dr h).vb a1 hs', Option.bind_some, e2, if_neg (by simp),
        dhas_eq hO.vb a1 hs', Option.bind_some, e3, e1, if_neg (by simp), hO.right, Option.bind_some, if_neg (by decide), Option.bind_some, if_neg (by simp; omega), t3, Option.bind_some]
      have hm := h.ml
      have hn1 := h.n1
      have hf2 : (TRM a0 A).f2 = a0.f2 := rfl
      rw [hf2]
      have hb : 0 ≤ vget a2 (0 : Int) ∧ vget a2 (0 : Int) ≤ 255 := by
        have : vget a2 (0 : Int) ∈ a2.toList := by
          have e : vget a2 (0 : Int) = lget a2.toList 0 := rfl
          rw [e]; exact mem_lget (by omega) (by simp)
        exact u8_of (h3 _ this)
      rw [w64s (by omega) (by omega)]
      have hp : (0 : Int) < (a0.f2.length : Int) := by omega
      have hk : 0 ≤ (vget a2 (0 : Int)).tmod (a0.f2.length : Int) ∧ (vget a2 (0 : Int)).tmod (a0.f2.length : Int) < (a0.f2.length : Int) := by
        rw [Int.tmod_eq_emod_of_nonneg hb.1]
        exact ⟨Int.emod_nonneg _ (by omega), Int.emod_lt_of_pos _ hp⟩
      generalize (vget a2 (0 : Int)).tmod (a0.f2.length : Int) = i at hk
      have hmi := h.mark _ (mem_lget hk.1 hk.2)
      rw [if_pos (by omega), if_pos hk, if_pos hk, t2, Option.bind_some, w64s (by omega) (by omega)]
      obtain ⟨z1, z2, z3⟩ := TRM_szk h A
      have hne : lset a0.f2 i (lget a0.f2 i + 1) ≠ a0.f2 := by
        intro e
        have : lget (lset a0.f2 i (lget a0.f2 i + 1)) i = lget a0.f2 i + 1 := by
          unfold lget lset
          rw [List.getD, List.getElem?_set_self (by omega)]; rfl
        rw [e] at this; omega
      have d1 : S50.mk (TRM a0 A).f0 (TRM a0 A).f1 (lset a0.f2 i (lget a0.f2 i + 1)) ≠ TRM a0 A := fun e => hne (congrArg S50.f2 e)
      rw [dsame_eq (S50.mk (TRM a0 A).f0 (TRM a0 A).f1 (lset a0.f2 i (lget a0.f2 i + 1))) (TRM a0 A) z1 (by show (lset a0.f2 i _).length ≤ 1000; rw [lset_len]; omega) z3, Option.bind_some, decide_eq_false d1, if_pos (by decide), Option.bind_some, dsame_eq (TRM a0 A) _ z1 z2 z3, Option.bind_some, decide_eq_false (fun e => d1 e.symm)]
      rfl
end Go.Avl.T3
