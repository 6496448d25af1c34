/- Parts: TEW, TEZ1, TER1, TER2, TEPureRexChecks. -/
import Derived.Test.YtcdennkoccjacaaDoorAF1
import Derived.Test.YtcdennkoccjacaaDoorAv3
import Derived.Laws.Bits64b
import Derived.Test.YtcdennkoccjacaaDoorAF2
import Derived.Test.YtcdennkoccjacaaDoorAF4
/- Opening of the arguments; printed by avlaw.py. -/
namespace Go.Avl.TE
open Go Go.RowKit Go.Proofs Go.Avl
set_option linter.unusedVariables false
set_option maxRecDepth 100000
theorem ag32 : tyAgg Tryd.prog 32 = some false := by rfl
abbrev wf3 : Int → Prop := (fun n : Int => (Lit.int .i64 n).wf = true)
theorem op3 : Opens Tryd.prog 3 eI64 wf3 := opens_int Tryd.underlying3
abbrev wf36 : Int → Prop := (fun n : Int => (Lit.int .u64 n).wf = true)
theorem op36 : Opens Tryd.prog 36 eU64 wf36 := opens_int Tryd.underlying36
abbrev wf38 : (Vector Int 4) → Prop := (fun l : Vector Int 4 => ∀ a ∈ l.toList, wf36 a)
theorem op38 : Opens Tryd.prog 38 e38 wf38 := opens_array Tryd.underlying38 sz36 sz38 op36
abbrev wf40 : S40 → Prop := (fun x : S40 => wf3 x.f0 ∧ wf38 x.f1)
theorem op40 : Opens Tryd.prog 40 e40 wf40 := (opens_struct Tryd.underlying40 sz40 (opensF_cons rfl sz3 (by decide) op3 (opensF_cons rfl sz38 (by decide) op38 (opensF_nil _)))).map (fun p => S40.mk p.1 p.2.1) (fun _ => rfl) (fun _ h => ⟨h.1, h.2.1⟩)
abbrev wf23 : (List S40) → Prop := (fun l : List S40 => l.length ≤ 9223372036854775807 ∧ ∀ a ∈ l, wf40 a)
theorem op23 : Opens Tryd.prog 23 e23 wf23 := opens_slice Tryd.underlying23 sz40 op40
abbrev wf32 : Int → Prop := (fun n : Int => (Lit.int .u16 n).wf = true)
theorem op32 : Opens Tryd.prog 32 eU16 wf32 := opens_int Tryd.underlying32
end Go.Avl.TE
/- Ported: texts between quotes. -/
namespace Go.Avl.TE
open Go Go.RowKit Go.Proofs Go.Avl
set_option linter.all false
set_option maxRecDepth 10000

def U (a : Vector Int 4) : Prop := ∀ j : Nat, j < 4 → 0 ≤ vget a (j : Int) ∧ vget a (j : Int) < 18446744073709551616
theorem U_of {a : Vector Int 4} (h : wf38 a) : U a := by
  intro j hj
  have h1 : j < a.toList.length := by simpa using hj
  have h2 := h a.toList[j] (List.getElem_mem h1)
  have e : vget a (j : Int) = a.toList[j] := by
    unfold vget
    rw [Int.toNat_natCast, List.getD, List.getElem?_eq_getElem h1]; rfl
  rw [e]
  have h2' : (Lit.int .u64 a.toList[j]).wf = true := h2
  have : 0 ≤ a.toList[j] ∧ a.toList[j] ≤ 18446744073709551615 := by
    generalize a.toList[j] = z at h2'
    simpa [Lit.wf, show IntKind.u64.min = 0 from rfl, show IntKind.u64.max = 18446744073709551615 from rfl] using h2'
  omega
end Go.Avl.TE
/- Regular expressions behind their parts: as trees; their parts. -/
namespace Go.Avl.TE
open Go Go.RowKit Go.Proofs Go.Avl
set_option linter.all false
set_option maxRecDepth 10000

abbrev KK : Nat := 200000
def VZ : Vector Int 4 := Vector.replicate 4 (0 : Int)
inductive Rx where
  | non
  | one (s : Vector Int 4)
  | cat (a b : Rx)
  | alt (a b : Rx)
  | un (k : Int) (a : Rx)
def ser : Rx → List S40
  | .non => [S40.mk 0 VZ]
  | .one s => [S40.mk 1 s]
  | .cat a b => ser a ++ ser b ++ [S40.mk 2 VZ]
  | .alt a b => ser a ++ ser b ++ [S40.mk 3 VZ]
  | .un k a => ser a ++ [S40.mk k VZ]
def ROK : Rx → Prop
  | .non => True
  | .one s => U s ∧ s ≠ VZ
  | .cat a b => ROK a ∧ ROK b
  | .alt a b => ROK a ∧ ROK b
  | .un k a => 4 ≤ k ∧ k ≤ 6 ∧ ROK a
theorem ser_pos : ∀ t : Rx, 0 < (ser t).length
  | .non => by simp [ser]
  | .one _ => by simp [ser]
  | .cat a b => by simp [ser]; omega
  | .alt a b => by simp [ser]; omega
  | .un k a => by simp [ser]
def tk (k : Int) : Int := if k = 0 ∨ k = 1 then 0 else if k = 2 ∨ k = 3 then 2 else if k = 4 ∨ k = 5 ∨ k = 6 then 1 else -1
theorem takes_eq (K : Nat) (k : Int) : rex_Takes K k = some (tk k) := by
  unfold rex_Takes rex_Takes_c2 rex_Takes_c1 rex_Takes_c0 tk
  by_cases h0 : k = 0
  · subst h0; rfl
  by_cases h1 : k = 1
  · subst h1; rfl
  by_cases h2 : k = 2
  · subst h2; rfl
  by_cases h3 : k = 3
  · subst h3; rfl
  by_cases h4 : k = 4
  · subst h4; rfl
  by_cases h5 : k = 5
  · subst h5; rfl
  by_cases h6 : k = 6
  · subst h6; rfl
  simp [h0, h1, h2, h3, h4, h5, h6]
theorem rtakes_eq (K : Nat) (k : Int) : bosketref04_Takes K k = some (tk k) := by
  unfold bosketref04_Takes tk
  by_cases a : k < 0
  · rw [if_pos a, Option.bind_some, if_pos rfl, if_neg (by omega), if_neg (by omega), if_neg (by omega)]
  by_cases b : (6 : Int) < k
  · rw [if_neg a, Option.bind_some, if_pos (by simpa using b), if_neg (by omega), if_neg (by omega), if_neg (by omega)]
  rw [if_neg a, Option.bind_some, if_neg (by simpa using b), if_pos ⟨by omega, by simp; omega⟩]
  have : k = 0 ∨ k = 1 ∨ k = 2 ∨ k = 3 ∨ k = 4 ∨ k = 5 ∨ k = 6 := by omega
  rcases this with rfl | rfl | rfl | rfl | rfl | rfl | rfl <;> rfl
theorem w6 {x : Int} (h0 : -1000000000000 ≤ x) (h1 : x ≤ 1000000000000) : w64 x = x := w64_id (by omega) (by omega)
theorem pget (l : List S40) (i : Nat) (h : i < l.length) : lget l (i : Int) = l[i] := by simp [lget, List.getD, List.getElem?_eq_getElem h]
theorem pget_at (pre : List S40) (p : S40) (post : List S40) : lget (pre ++ p :: post) (pre.length : Int) = p := by
  rw [pget _ _ (by simp)]; simp
/-- A stack of trees, the last one ahead. -/
def fl : List Rx → List S40
  | [] => []
  | t :: st => fl st ++ ser t
/-- May a piece stand behind so many? -/
def pOK (n : Int) (p : S40) : Bool := !(decide (tk p.f0 < 0) || decide (n < tk p.f0) || (decide (p.f0 = 1) == decide (p.f1 = VZ)))
theorem step_stk {st : List Rx} (hst : ∀ t ∈ st, ROK t) {p : S40} (hu : U p.f1) (h : pOK (st.length : Int) p = true) :
    ∃ st', (∀ t ∈ st', ROK t) ∧ fl st' = fl st ++ [p] ∧ (st'.length : Int) = st.length - tk p.f0 + 1 := by
  obtain ⟨k, s⟩ := p
  simp only [pOK, Bool.not_eq_true', Bool.or_eq_false_iff, decide_eq_false_iff_not] at h
  obtain ⟨⟨h1, h2⟩, h3⟩ := h
  have hz : k ≠ 1 → s = VZ := by
    intro hk
    have : (false == decide (s = VZ)) = false := by rwa [decide_eq_false hk] at h3
    by_cases q : s = VZ
    · exact q
    · rw [decide_eq_false q] at this; cases this
  have hk : k = 0 ∨ k = 1 ∨ k = 2 ∨ k = 3 ∨ k = 4 ∨ k = 5 ∨ k = 6 := by
    unfold tk at h1
    split at h1
    · omega
    · split at h1
      · omega
      · split at h1
        · omega
        · exact absurd (by decide) h1
  have un : ∀ k' : Int, 4 ≤ k' → k' ≤ 6 → k = k' → tk k = 1 → ∃ st', (∀ t ∈ st', ROK t) ∧ fl st' = fl st ++ [S40.mk k s] ∧ (st'.length : Int) = st.length - tk k + 1 := by
    intro k' a b e et
    cases st with
    | nil => rw [et] at h2; simp at h2
    | cons t st =>
      refine ⟨.un k t :: st, fun u hu => ?_, ?_, ?_⟩
      · rcases List.mem_cons.1 hu with rfl | hu
        · exact ⟨by omega, by omega, hst t (by simp)⟩
        · exact hst u (by simp [hu])
      · rw [hz (by omega)]; simp [fl, ser]
      · rw [et]; simp
  rcases hk with rfl | rfl | rfl | rfl | rfl | rfl | rfl
  · refine ⟨.non :: st, fun u hu => ?_, by rw [hz (by decide)]; rfl, by simp [tk]⟩
    rcases List.mem_cons.1 hu with rfl | hu
    · trivial
    · exact hst u hu
  · refine ⟨.one s :: st, fun u hu' => ?_, rfl, by simp [tk]⟩
    rcases List.mem_cons.1 hu' with rfl | hu'
    · refine ⟨hu, fun e => ?_⟩
      rw [decide_eq_true e] at h3; cases h3
    · exact hst u hu'
  · match st, hst, h2 with
    | [], _, h2 => simp [tk] at h2
    | [_], _, h2 => simp [tk] at h2
    | b :: a :: st, hst, _ =>
      refine ⟨.cat a b :: st, fun u hu => ?_, by rw [hz (by decide)]; simp [fl, ser], by simp [tk]; omega⟩
      rcases List.mem_cons.1 hu with rfl | hu
      · exact ⟨hst a (by simp), hst b (by simp)⟩
      · exact hst u (by simp [hu])
  · match st, hst, h2 with
    | [], _, h2 => simp [tk] at h2
    | [_], _, h2 => simp [tk] at h2
    | b :: a :: st, hst, _ =>
      refine ⟨.alt a b :: st, fun u hu => ?_, by rw [hz (by decide)]; simp [fl, ser], by simp [tk]; omega⟩
      rcases List.mem_cons.1 hu with rfl | hu
      · exact ⟨hst a (by simp), hst b (by simp)⟩
      · exact hst u (by simp [hu])
  · exact un 4 (by omega) (by omega) rfl rfl
  · exact un 5 (by omega) (by omega) rfl rfl
  · exact un 6 (by omega) (by omega) rfl rfl
theorem tk_le (k : Int) : -1 ≤ tk k ∧ tk k ≤ 2 := by unfold tk; repeat (first | omega | split)
theorem check_l (p : List S40) (hp : p.length ≤ 400) (hu : ∀ x ∈ p, U x.f1) : ∀ (m i fuel : Nat) (st : List Rx), i + m = p.length → m < fuel → fl st = p.take i → (∀ t ∈ st, ROK t) → st.length ≤ i →
    ∃ c, rex_Check_l1 KK p fuel (st.length : Int) (i : Int) = some c ∧ bosketref04_Check_l1 KK p fuel (st.length : Int) (i : Int) = some c ∧ (c = 0 → ∃ t, ROK t ∧ p = ser t)
  | 0, i, f + 1, st, hi, _, hfl, hst, hz => by
    rw [rex_Check_l1.eq_2, bosketref04_Check_l1.eq_2, if_neg (by omega), if_neg (by omega)]
    unfold rex_Check_c0 bosketref04_Check_c0
    by_cases a : (st.length : Int) = 1
    · rw [if_neg (by simpa using a)]
      refine ⟨0, rfl, rfl, fun _ => ?_⟩
      match st, a with
      | [t], _ =>
        rw [List.take_of_length_le (by omega)] at hfl
        exact ⟨t, hst t (by simp), by rw [← hfl]; simp [fl]⟩
    · rw [if_pos a]
      exact ⟨5, rfl, rfl, fun e => by cases e⟩
  | m + 1, i, f + 1, st, hi, hf, hfl, hst, hz => by
    have hi' : i < p.length := by omega
    have g : 0 ≤ (i : Int) ∧ (i : Int) < (p.length : Int) := ⟨by omega, by omega⟩
    have htk := tk_le p[i].f0
    rw [rex_Check_l1.eq_2, bosketref04_Check_l1.eq_2, if_pos g.2, if_pos g, if_pos g.2, if_pos g, pget p i hi', takes_eq, rtakes_eq, Option.bind_some, Option.bind_some, if_pos g, if_pos g]
    unfold byteset_Empty
    rw [Option.bind_some]
    have key : ∀ n : Int, (if tk p[i].f0 < 0 then some true else if n < tk p[i].f0 then some true else some (decide (p[i].f0 = 1) == decide (p[i].f1 = Vector.replicate 4 (0 : Int)))) = some (!pOK n p[i]) := by
      intro n
      unfold pOK
      by_cases a : tk p[i].f0 < 0
      · rw [if_pos a, decide_eq_true a]; rfl
      · rw [if_neg a, decide_eq_false a]
        by_cases b : n < tk p[i].f0
        · rw [if_pos b, decide_eq_true b]; rfl
        · rw [if_neg b, decide_eq_false b]; simp only [Bool.false_or, Bool.not_not]; rfl
    rw [key, Option.bind_some, Option.bind_some]
    cases e : pOK (st.length : Int) p[i] with
    | false => exact ⟨5, rfl, rfl, fun e => by cases e⟩
    | true =>
      obtain ⟨st', s1, s2, s3⟩ := step_stk hst (hu _ (List.getElem_mem hi')) e
      have s4 : (st'.length : Int) ≤ (i : Int) + 1 := by
        have : 0 ≤ tk p[i].f0 := by
          simp only [pOK, Bool.not_eq_true', Bool.or_eq_false_iff, decide_eq_false_iff_not] at e
          omega
        omega
      obtain ⟨c, c1, c2, c3⟩ := check_l p hp hu m (i + 1) f st' (by omega) (by omega) (by rw [s2, hfl]; exact List.take_append_getElem hi') s1 (by omega)
      rw [if_neg (by decide), if_neg (by decide), w6 (x := 1 - tk p[i].f0) (by omega) (by omega), w6 (x := (st.length : Int) + (1 - tk p[i].f0)) (by omega) (by omega), w6 (x := (st.length : Int) - tk p[i].f0) (by omega) (by omega), w6 (x := (st.length : Int) - tk p[i].f0 + 1) (by omega) (by omega), w6 (x := (i : Int) + 1) (by omega) (by omega),
        show (st.length : Int) + (1 - tk p[i].f0) = (st'.length : Int) by omega, show (st.length : Int) - tk p[i].f0 + 1 = (st'.length : Int) by omega, show (i : Int) + 1 = ((i + 1 : Nat) : Int) by omega]
      exact ⟨c, c1, c2, c3⟩
/-- Both checks; what passes is a tree's text. -/
theorem check_eq (p : List S40) (hp : p.length ≤ 400) (hu : ∀ x ∈ p, U x.f1) : ∃ c, rex_Check KK p = some c ∧ bosketref04_Check KK p = some c ∧ (c = 0 → ∃ t, ROK t ∧ p = ser t) := by
  unfold rex_Check bosketref04_Check
  rw [if_neg (by omega), if_neg (by omega)]
  exact check_l p hp hu p.length 0 KK [] (by omega) (by show p.length < 200000; omega) rfl (fun t ht => by cases ht) (by simp)
/-! Where a part begins. -/
theorem start_scan (p0 : List S40) (hz : p0.length ≤ 1000000) : ∀ (t : Rx), ROK t → ∀ (pre post : List S40) (need : Int) (f : Nat), p0 = pre ++ ser t ++ post → 1 ≤ need → need ≤ 1000000000 - (ser t).length →
    rex_Start_l1 KK p0 (f + (ser t).length) need ((pre.length : Int) + (ser t).length - 1) = (if need = 1 then some (pre.length : Int) else rex_Start_l1 KK p0 f (need - 1) ((pre.length : Int) - 1)) ∧
    bosketref04_Start_l1 KK p0 (f + (ser t).length) need ((pre.length : Int) + (ser t).length - 1) = (if need = 1 then some (pre.length : Int) else bosketref04_Start_l1 KK p0 f (need - 1) ((pre.length : Int) - 1)) := by
  -- one piece back
  have back : ∀ (pre : List S40) (p : S40) (post : List S40) (need : Int) (f : Nat), p0 = pre ++ p :: post → 1 ≤ need → need ≤ 1000000000 → 0 ≤ tk p.f0 →
      rex_Start_l1 KK p0 (f + 1) need (pre.length : Int) = (if need - 1 + tk p.f0 = 0 then some (pre.length : Int) else rex_Start_l1 KK p0 f (need - 1 + tk p.f0) ((pre.length : Int) - 1)) ∧
      bosketref04_Start_l1 KK p0 (f + 1) need (pre.length : Int) = (if need - 1 + tk p.f0 = 0 then some (pre.length : Int) else bosketref04_Start_l1 KK p0 f (need - 1 + tk p.f0) ((pre.length : Int) - 1)) := by
    intro pre p post need f e h1 h2 h3
    have hl : pre.length < p0.length := by rw [e]; simp
    have htk := tk_le p.f0
    have hg : lget p0 (pre.length : Int) = p := by rw [e]; exact pget_at pre p post
    have g0 : (0 : Int) ≤ (pre.length : Int) := by omega
    have g1 : 0 ≤ (pre.length : Int) ∧ (pre.length : Int) < (p0.length : Int) := ⟨by omega, by omega⟩
    constructor
    · rw [rex_Start_l1.eq_2, if_pos g0, if_pos g1, hg, takes_eq, Option.bind_some, w6 (x := tk p.f0 - 1) (by omega) (by omega), w6 (x := need + (tk p.f0 - 1)) (by omega) (by omega), w6 (x := (pre.length : Int) - 1) (by omega) (by omega), show need + (tk p.f0 - 1) = need - 1 + tk p.f0 by omega]
    · rw [bosketref04_Start_l1.eq_2, if_pos g0, if_pos g1, hg, rtakes_eq, Option.bind_some, w6 (x := need - 1) (by omega) (by omega), w6 (x := need - 1 + tk p.f0) (by omega) (by omega), w6 (x := (pre.length : Int) - 1) (by omega) (by omega)]
  intro t
  have two : ∀ (k : Int) (a b : Rx), tk k = 2 → (∀ (pre post : List S40) (need : Int) (f : Nat), p0 = pre ++ ser a ++ post → 1 ≤ need → need ≤ 1000000000 - (ser a).length →
    rex_Start_l1 KK p0 (f + (ser a).length) need ((pre.length : Int) + (ser a).length - 1) = (if need = 1 then some (pre.length : Int) else rex_Start_l1 KK p0 f (need - 1) ((pre.length : Int) - 1)) ∧
    bosketref04_Start_l1 KK p0 (f + (ser a).length) need ((pre.length : Int) + (ser a).length - 1) = (if need = 1 then some (pre.length : Int) else bosketref04_Start_l1 KK p0 f (need - 1) ((pre.length : Int) - 1))) →
    (∀ (pre post : List S40) (need : Int) (f : Nat), p0 = pre ++ ser b ++ post → 1 ≤ need → need ≤ 1000000000 - (ser b).length →
    rex_Start_l1 KK p0 (f + (ser b).length) need ((pre.length : Int) + (ser b).length - 1) = (if need = 1 then some (pre.length : Int) else rex_Start_l1 KK p0 f (need - 1) ((pre.length : Int) - 1)) ∧
    bosketref04_Start_l1 KK p0 (f + (ser b).length) need ((pre.length : Int) + (ser b).length - 1) = (if need = 1 then some (pre.length : Int) else bosketref04_Start_l1 KK p0 f (need - 1) ((pre.length : Int) - 1))) →
    ∀ (pre post : List S40) (need : Int) (f : Nat), p0 = pre ++ (ser a ++ ser b ++ [S40.mk k VZ]) ++ post → 1 ≤ need → need ≤ 1000000000 - (ser a ++ ser b ++ [S40.mk k VZ]).length →
    rex_Start_l1 KK p0 (f + (ser a ++ ser b ++ [S40.mk k VZ]).length) need ((pre.length : Int) + (ser a ++ ser b ++ [S40.mk k VZ]).length - 1) = (if need = 1 then some (pre.length : Int) else rex_Start_l1 KK p0 f (need - 1) ((pre.length : Int) - 1)) ∧
    bosketref04_Start_l1 KK p0 (f + (ser a ++ ser b ++ [S40.mk k VZ]).length) need ((pre.length : Int) + (ser a ++ ser b ++ [S40.mk k VZ]).length - 1) = (if need = 1 then some (pre.length : Int) else bosketref04_Start_l1 KK p0 f (need - 1) ((pre.length : Int) - 1)) := by
    intro k a b hk iha ihb pre post need f e h1 h2
    have hla := ser_pos a
    have hlb := ser_pos b
    have hlen : (ser a ++ ser b ++ [S40.mk k VZ]).length = (ser a).length + (ser b).length + 1 := by simp only [List.length_append, List.length_cons, List.length_nil]
    rw [hlen] at h2 ⊢
    have b1 := back (pre ++ ser a ++ ser b) (S40.mk k VZ) post need (f + (ser a).length + (ser b).length) (by rw [e]; simp) h1 (by omega) (by rw [hk]; omega)
    rw [hk, if_neg (by omega), if_neg (by omega)] at b1
    have b2 := ihb (pre ++ ser a) (S40.mk k VZ :: post) (need - 1 + 2) (f + (ser a).length) (by rw [e]; simp) (by omega) (by omega)
    rw [if_neg (by omega), if_neg (by omega)] at b2
    have b3 := iha pre (ser b ++ S40.mk k VZ :: post) need f (by rw [e]; simp) h1 (by omega)
    have i1 : ((pre ++ ser a ++ ser b).length : Int) = (pre.length : Int) + (((ser a).length + (ser b).length + 1 : Nat) : Int) - 1 := by simp only [List.length_append, List.length_cons, List.length_nil]; omega
    have i2 : ((pre ++ ser a ++ ser b).length : Int) - 1 = ((pre ++ ser a).length : Int) + (ser b).length - 1 := by simp only [List.length_append, List.length_cons, List.length_nil]; omega
    have i3 : ((pre ++ ser a).length : Int) - 1 = (pre.length : Int) + (ser a).length - 1 := by simp only [List.length_append, List.length_cons, List.length_nil]; omega
    have i4 : need - 1 + 2 - 1 = need := by omega
    rw [i2] at b1
    rw [i1] at b1
    rw [i3, i4] at b2
    rw [show f + ((ser a).length + (ser b).length + 1) = f + (ser a).length + (ser b).length + 1 by omega]
    exact ⟨b1.1.trans (b2.1.trans b3.1), b1.2.trans (b2.2.trans b3.2)⟩
  induction t with
  | non =>
    intro _ pre post need f e h1 h2
    have := back pre (S40.mk 0 VZ) post need f (by rw [e]; simp [ser]) h1 (by simp [ser] at h2; omega) (by decide)
    have e0 : need - 1 + tk 0 = need - 1 := by rw [show tk 0 = 0 from rfl]; omega
    rw [e0] at this
    have i1 : (pre.length : Int) + ((ser .non).length : Int) - 1 = (pre.length : Int) := by simp [ser]
    rw [i1]
    by_cases q : need = 1
    · rw [if_pos q, if_pos q]; rw [if_pos (by omega), if_pos (by omega)] at this; exact this
    · rw [if_neg q, if_neg q]; rw [if_neg (by omega), if_neg (by omega)] at this; exact this
  | one s =>
    intro _ pre post need f e h1 h2
    have := back pre (S40.mk 1 s) post need f (by rw [e]; simp [ser]) h1 (by simp [ser] at h2; omega) (by show 0 ≤ tk 1; decide)
    have e0 : need - 1 + tk (S40.mk 1 s).f0 = need - 1 := by rw [show tk (S40.mk 1 s).f0 = 0 from rfl]; omega
    rw [e0] at this
    have i1 : (pre.length : Int) + ((ser (.one s)).length : Int) - 1 = (pre.length : Int) := by simp [ser]
    rw [i1]
    by_cases q : need = 1
    · rw [if_pos q, if_pos q]; rw [if_pos (by omega), if_pos (by omega)] at this; exact this
    · rw [if_neg q, if_neg q]; rw [if_neg (by omega), if_neg (by omega)] at this; exact this
  | cat a b iha ihb =>
    intro hok pre post need f e h1 h2
    exact two 2 a b rfl (iha hok.1) (ihb hok.2) pre post need f e h1 h2
  | alt a b iha ihb =>
    intro hok pre post need f e h1 h2
    exact two 3 a b rfl (iha hok.1) (ihb hok.2) pre post need f e h1 h2
  | un k a iha =>
    intro hok pre post need f e h1 h2
    have hk : tk k = 1 := by
      have : k = 4 ∨ k = 5 ∨ k = 6 := by have := hok.1; have := hok.2.1; omega
      rcases this with rfl | rfl | rfl <;> rfl
    have hla := ser_pos a
    have hlen : (ser (.un k a)).length = (ser a).length + 1 := by simp [ser]
    rw [hlen] at h2 ⊢
    have b1 := back (pre ++ ser a) (S40.mk k VZ) post need (f + (ser a).length) (by rw [e]; simp [ser]) h1 (by omega) (by show 0 ≤ tk k; omega)
    rw [show tk (S40.mk k VZ).f0 = 1 from hk, if_neg (by omega), if_neg (by omega), show need - 1 + 1 = need by omega] at b1
    have b3 := iha hok.2.2 pre (S40.mk k VZ :: post) need f (by rw [e]; simp [ser]) h1 (by omega)
    have i1 : ((pre ++ ser a).length : Int) = (pre.length : Int) + (((ser a).length + 1 : Nat) : Int) - 1 := by simp only [List.length_append, List.length_cons, List.length_nil]; omega
    have i3 : ((pre ++ ser a).length : Int) - 1 = (pre.length : Int) + (ser a).length - 1 := by simp only [List.length_append, List.length_cons, List.length_nil]; omega
    rw [i3] at b1
    rw [i1] at b1
    rw [show f + ((ser a).length + 1) = f + (ser a).length + 1 by omega]
    exact ⟨b1.1.trans b3.1, b1.2.trans b3.2⟩
theorem start_eq {p0 : List S40} (hz : p0.length ≤ 100000) {t : Rx} (ht : ROK t) {pre post : List S40} (e : p0 = pre ++ ser t ++ post) :
    rex_Start KK p0 ((pre.length : Int) + (ser t).length - 1) = some (pre.length : Int) ∧ bosketref04_Start KK p0 ((pre.length : Int) + (ser t).length - 1) = some (pre.length : Int) := by
  have hl : (ser t).length ≤ p0.length := by rw [e]; simp; omega
  have := start_scan p0 (by omega) t ht pre post 1 (KK - (ser t).length) e (by omega) (by omega)
  rw [if_pos rfl, if_pos rfl, show KK - (ser t).length + (ser t).length = KK by show 200000 - _ + _ = 200000; omega] at this
  exact this
/-! Parts. -/
def parts : Rx → List (List S40)
  | .cat a b => [ser a, ser b]
  | .alt a b => [ser a, ser b]
  | .un _ a => [ser a]
  | _ => []
def kind : Rx → Int
  | .non => 0
  | .one _ => 1
  | .cat _ _ => 2
  | .alt _ _ => 3
  | .un k _ => k
theorem last_ix {t : Rx} (hz : (ser t).length ≤ 100000) : w64 (((ser t).length : Int) - 1) = (((ser t).length - 1 : Nat) : Int) := by
  have := ser_pos t
  rw [w6 (by omega) (by omega)]; omega
def setOf : Rx → Vector Int 4
  | .one s => s
  | _ => VZ
theorem last_get : ∀ (t : Rx), lget (ser t) (((ser t).length - 1 : Nat) : Int) = S40.mk (kind t) (setOf t)
  | .non => rfl
  | .one s => rfl
  | .cat a b => by
    have : (ser (.cat a b)).length - 1 = (ser a ++ ser b).length := by simp [ser]
    rw [this]; exact pget_at (ser a ++ ser b) _ []
  | .alt a b => by
    have : (ser (.alt a b)).length - 1 = (ser a ++ ser b).length := by simp [ser]
    rw [this]; exact pget_at (ser a ++ ser b) _ []
  | .un k a => by
    have : (ser (.un k a)).length - 1 = (ser a).length := by simp [ser]
    rw [this]; exact pget_at (ser a) _ []
theorem lcut_mid (a b c : List S40) : lcut (a ++ b ++ c) (a.length : Int) ((a.length + b.length : Nat) : Int) = b := by
  unfold lcut
  rw [Int.toNat_natCast, Int.toNat_natCast, List.take_append_of_le_length (by simp), List.take_of_length_le (by simp), List.drop_left]
theorem lcut_pre (a b : List S40) : lcut (a ++ b) 0 (a.length : Int) = a := by
  unfold lcut
  rw [Int.toNat_natCast, List.take_left]; rfl
theorem clone_eq (l : List S40) (hz : l.length ≤ 1000000) : slices_Clone_api_Regex_api_Piece_ KK l = some l ∧ slices_Clone_api_Regex_api_Piece__own KK l = some l := by
  unfold slices_Clone_api_Regex_api_Piece_ slices_Clone_api_Regex_api_Piece__own
  rw [List.nil_append, if_pos (by omega)]; exact ⟨rfl, rfl⟩
theorem parts_eq {t : Rx} (ht : ROK t) (hz : (ser t).length ≤ 100000) : rex_Parts KK (ser t) = some (parts t) := by
  have hp := ser_pos t
  have hx := last_ix hz
  unfold rex_Parts
  rw [if_neg (by omega), hx, if_pos ⟨by omega, by omega⟩, last_get, takes_eq, Option.bind_some]
  have two : ∀ (k : Int) (a b : Rx), ROK a → ROK b → ser t = ser a ++ ser b ++ [S40.mk k VZ] → (rex_Start KK (ser t) (w64 (((ser t).length : Int) - 2))).bind (fun t12 =>
      if 0 ≤ (0 : Int) ∧ (0 : Int) ≤ t12 ∧ t12 ≤ ((ser t).length : Int) then (slices_Clone_api_Regex_api_Piece_ KK (lcut (ser t) (0 : Int) t12)).bind fun t14 =>
      if 0 ≤ t12 ∧ t12 ≤ (((ser t).length - 1 : Nat) : Int) ∧ (((ser t).length - 1 : Nat) : Int) ≤ ((ser t).length : Int) then (slices_Clone_api_Regex_api_Piece_ KK (lcut (ser t) t12 (((ser t).length - 1 : Nat) : Int))).bind fun t16 => some [t14, t16] else none else none) = some [ser a, ser b] := by
    intro k a b ha hb e
    have hlen : (ser t).length = (ser a).length + (ser b).length + 1 := by rw [e]; simp only [List.length_append, List.length_cons, List.length_nil]
    have hla := ser_pos a
    have hlb := ser_pos b
    have hs := start_eq (p0 := ser t) hz hb (pre := ser a) (post := [S40.mk k VZ]) (by rw [e])
    rw [w6 (x := ((ser t).length : Int) - 2) (by omega) (by omega), show ((ser t).length : Int) - 2 = ((ser a).length : Int) + (ser b).length - 1 by omega, hs.1, Option.bind_some, if_pos ⟨by omega, by omega, by omega⟩]
    have c1 : lcut (ser t) 0 ((ser a).length : Int) = ser a := by rw [e, List.append_assoc]; exact lcut_pre (ser a) _
    have c2 : lcut (ser t) ((ser a).length : Int) (((ser t).length - 1 : Nat) : Int) = ser b := by
      rw [show (ser t).length - 1 = (ser a).length + (ser b).length by omega, e]; exact lcut_mid (ser a) (ser b) _
    rw [c1, c2, (clone_eq (ser a) (by omega)).1, Option.bind_some, if_pos ⟨by omega, by omega, by omega⟩, (clone_eq (ser b) (by omega)).1]; rfl
  cases t with
  | non => rfl
  | one s => rfl
  | cat a b =>
    show (if tk 2 = 1 then _ else if tk 2 = 2 then _ else _) = _
    rw [if_neg (by decide), if_pos (by decide)]
    exact two 2 a b ht.1 ht.2 rfl
  | alt a b =>
    show (if tk 3 = 1 then _ else if tk 3 = 2 then _ else _) = _
    rw [if_neg (by decide), if_pos (by decide)]
    exact two 3 a b ht.1 ht.2 rfl
  | un k a =>
    have hk : tk k = 1 := by
      have : k = 4 ∨ k = 5 ∨ k = 6 := by have := ht.1; have := ht.2.1; omega
      rcases this with rfl | rfl | rfl <;> rfl
    show (if tk k = 1 then _ else if tk k = 2 then _ else _) = _
    have hlen : (ser (.un k a)).length - 1 = (ser a).length := by simp [ser]
    have hlen2 : (ser (.un k a)).length = (ser a).length + 1 := by simp [ser]
    rw [if_pos hk, hlen, if_pos ⟨by omega, by omega, by omega⟩]
    have c1 : lcut (ser (.un k a)) 0 ((ser a).length : Int) = ser a := lcut_pre (ser a) _
    rw [c1, (clone_eq (ser a) (by omega)).2]; rfl
theorem rparts_eq {t : Rx} (ht : ROK t) (hz : (ser t).length ≤ 100000) : bosketref04_Parts KK (ser t) = some (parts t) := by
  have hp := ser_pos t
  have hx := last_ix hz
  unfold bosketref04_Parts
  rw [hx, if_pos ⟨by omega, by omega⟩, last_get, rtakes_eq, Option.bind_some]
  have stop : ∀ (f : Nat) (acc : List (List S40)) (x : Int), bosketref04_Parts_l1 KK (ser t) (f + 1) acc x 0 = some acc := by
    intro f acc x
    rw [bosketref04_Parts_l1.eq_2, if_neg (by omega), bosketref04_Parts_c0]
  have go : ∀ (f : Nat) (acc : List (List S40)) (n : Int) (pre post : List S40) (a : Rx), ROK a → ser t = pre ++ ser a ++ post → acc.length ≤ 10 → 0 < n → n ≤ 2 →
      bosketref04_Parts_l1 KK (ser t) (f + 1) acc ((pre.length + (ser a).length : Nat) : Int) n = bosketref04_Parts_l1 KK (ser t) f ([ser a] ++ acc) (pre.length : Int) (n - 1) := by
    intro f acc n pre post a ha e hl h0 h2
    have hlen : (ser t).length = pre.length + (ser a).length + post.length := by rw [e]; simp; omega
    have hla := ser_pos a
    have hs := start_eq (p0 := ser t) hz ha e
    have c2 : lcut (ser t) (pre.length : Int) ((pre.length + (ser a).length : Nat) : Int) = ser a := by rw [e]; exact lcut_mid pre (ser a) _
    rw [bosketref04_Parts_l1.eq_2, if_pos h0, w6 (x := ((pre.length + (ser a).length : Nat) : Int) - 1) (by omega) (by omega), show ((pre.length + (ser a).length : Nat) : Int) - 1 = (pre.length : Int) + (ser a).length - 1 by omega, hs.2, Option.bind_some, if_pos ⟨by omega, by omega, by omega⟩, c2, if_pos (by simp; omega), w6 (x := n - 1) (by omega) (by omega)]
  have two : ∀ (k : Int) (a b : Rx), ROK a → ROK b → ser t = ser a ++ ser b ++ [S40.mk k VZ] → bosketref04_Parts_l1 KK (ser t) KK [] (((ser t).length - 1 : Nat) : Int) 2 = some [ser a, ser b] := by
    intro k a b ha hb e
    have hlen : (ser t).length - 1 = (ser a).length + (ser b).length := by rw [e]; simp
    rw [hlen]
    have g1 := go 199999 [] 2 (ser a) [S40.mk k VZ] b hb (by rw [e]) (by simp) (by omega) (by omega)
    have g2 := go 199998 [ser b] (2 - 1) [] (ser b ++ [S40.mk k VZ]) a ha (by rw [e]; simp) (by simp) (by omega) (by omega)
    refine g1.trans ?_
    rw [List.append_nil]
    have i0 : ((([] : List S40).length + (ser a).length : Nat) : Int) = ((ser a).length : Int) := by simp
    rw [i0] at g2
    refine g2.trans ?_
    exact stop 199997 _ _
  cases t with
  | non => exact stop 199999 _ _
  | one s => exact stop 199999 _ _
  | cat a b => exact two 2 a b ht.1 ht.2 rfl
  | alt a b => exact two 3 a b ht.1 ht.2 rfl
  | un k a =>
    have hk : tk k = 1 := by
      have : k = 4 ∨ k = 5 ∨ k = 6 := by have := ht.1; have := ht.2.1; omega
      rcases this with rfl | rfl | rfl <;> rfl
    show bosketref04_Parts_l1 KK (ser (.un k a)) KK [] (((ser (.un k a)).length - 1 : Nat) : Int) (tk k) = _
    have hlen : (ser (.un k a)).length - 1 = ([] : List S40).length + (ser a).length := by simp [ser]
    rw [hk, hlen]
    refine (go 199999 [] 1 [] [S40.mk k VZ] a ht.2.2 (by simp [ser]) (by simp) (by omega) (by omega)).trans ?_
    exact stop 199998 _ _
end Go.Avl.TE
/- Regular expressions: joined again, compared, begun, their sets. -/
namespace Go.Avl.TE
open Go Go.RowKit Go.Proofs Go.Avl
set_option linter.all false
set_option maxRecDepth 10000

theorem join2_l (f : Nat) (k : Int) (a b : List S40) (h : a.length + b.length ≤ 1000000) : rex_Join_l1 KK k [a, b] (f + 1 + 1 + 1) [] 0 = some (a ++ b ++ [S40.mk k VZ]) := by
  have g : (([a, b] : List (List S40)).length : Int) = 2 := rfl
  rw [rex_Join_l1.eq_2, g, if_pos (by omega), if_pos (by omega), show lget [a, b] (0 : Int) = a from rfl, if_pos (by simp; omega), show w64 (0 + 1) = (1 : Int) from w6 (by omega) (by omega)]
  rw [rex_Join_l1.eq_2, g, if_pos (by omega), if_pos (by omega), show lget [a, b] (1 : Int) = b from rfl, if_pos (by simp; omega), show w64 (1 + 1) = (2 : Int) from w6 (by omega) (by omega)]
  rw [rex_Join_l1.eq_2, g, if_neg (by omega), rex_Join_c0, if_pos (by simp; omega), List.nil_append]; rfl
theorem join1_l (f : Nat) (k : Int) (a : List S40) (h : a.length ≤ 1000000) : rex_Join_l1 KK k [a] (f + 1 + 1) [] 0 = some (a ++ [S40.mk k VZ]) := by
  have g : (([a] : List (List S40)).length : Int) = 1 := rfl
  rw [rex_Join_l1.eq_2, g, if_pos (by omega), if_pos (by omega), show lget [a] (0 : Int) = a from rfl, if_pos (by simp; omega), show w64 (0 + 1) = (1 : Int) from w6 (by omega) (by omega)]
  rw [rex_Join_l1.eq_2, g, if_neg (by omega), rex_Join_c0, if_pos (by simp; omega), List.nil_append]; rfl
theorem join2 (k : Int) (hk : k = 2 ∨ k = 3) (a b : List S40) (h : a.length + b.length ≤ 1000000) : rex_Join KK k [a, b] = some (a ++ b ++ [S40.mk k VZ]) := by
  have ht : tk k = 2 := by rcases hk with rfl | rfl <;> rfl
  have g : (([a, b] : List (List S40)).length : Int) = 2 := rfl
  unfold rex_Join
  rw [takes_eq, Option.bind_some, ht, g, if_neg (by decide), Option.bind_some, if_neg (by decide)]
  exact join2_l 199997 k a b h
theorem join1 (k : Int) (hk : k = 4 ∨ k = 5 ∨ k = 6) (a : List S40) (h : a.length ≤ 1000000) : rex_Join KK k [a] = some (a ++ [S40.mk k VZ]) := by
  have ht : tk k = 1 := by rcases hk with rfl | rfl | rfl <;> rfl
  have g : (([a] : List (List S40)).length : Int) = 1 := rfl
  unfold rex_Join
  rw [takes_eq, Option.bind_some, ht, g, if_neg (by decide), Option.bind_some, if_neg (by decide)]
  exact join1_l 199998 k a h
theorem join_back {t : Rx} (ht : ROK t) (hz : (ser t).length ≤ 1000) (hp : parts t ≠ []) : rex_Join KK (kind t) (parts t) = some (ser t) := by
  cases t with
  | non => exact absurd rfl hp
  | one s => exact absurd rfl hp
  | cat a b =>
    have hlen : (ser (.cat a b)).length = (ser a).length + (ser b).length + 1 := by simp only [ser, List.length_append, List.length_cons, List.length_nil]
    exact join2 2 (.inl rfl) (ser a) (ser b) (by omega)
  | alt a b =>
    have hlen : (ser (.alt a b)).length = (ser a).length + (ser b).length + 1 := by simp only [ser, List.length_append, List.length_cons, List.length_nil]
    exact join2 3 (.inr rfl) (ser a) (ser b) (by omega)
  | un k a =>
    have hk : k = 4 ∨ k = 5 ∨ k = 6 := by have := ht.1; have := ht.2.1; omega
    have hlen : (ser (.un k a)).length = (ser a).length + 1 := by simp [ser]
    exact join1 k hk (ser a) (by omega)
theorem same_l2 (l : List S40) (hz : l.length ≤ 1000) : ∀ (k i fuel : Nat), i + k = l.length → k < fuel → slices_Equal_api_Regex_api_Piece__l1 KK l l fuel (i : Int) = some true
  | 0, i, f + 1, hi, _ => by rw [slices_Equal_api_Regex_api_Piece__l1.eq_2, if_neg (by omega)]; rfl
  | k + 1, i, f + 1, hi, hf => by
    have ih := same_l2 l hz k (i + 1) f (by omega) (by omega)
    rw [slices_Equal_api_Regex_api_Piece__l1.eq_2, if_pos (by omega), if_pos ⟨by omega, by omega⟩, if_pos ⟨by omega, by omega⟩, if_neg (by simp), w6 (by omega) (by omega)]
    exact_mod_cast ih
theorem rsame_self (l : List S40) (hz : l.length ≤ 1000) : rex_Same KK l l = some true := by
  unfold rex_Same slices_Equal_api_Regex_api_Piece_
  rw [if_neg (by simp)]
  have := same_l2 l hz l.length 0 KK (by omega) (by show _ < 200000; omega)
  rw [Int.natCast_zero] at this
  rw [this]; rfl
theorem bsame_l (l : List S40) (hz : l.length ≤ 1000) : ∀ (k i fuel : Nat), i + k = l.length → k < fuel → bosketref04_Same_l1 KK l l fuel (i : Int) = some true
  | 0, i, f + 1, hi, _ => by rw [bosketref04_Same_l1.eq_2, if_neg (by omega)]; rfl
  | k + 1, i, f + 1, hi, hf => by
    have ih := bsame_l l hz k (i + 1) f (by omega) (by omega)
    rw [bosketref04_Same_l1.eq_2, if_pos (by omega), if_pos ⟨by omega, by omega⟩, if_pos ⟨by omega, by omega⟩, if_neg (by simp), w6 (by omega) (by omega)]
    exact_mod_cast ih
theorem bsame_self (l : List S40) (hz : l.length ≤ 1000) : bosketref04_Same KK l l = some true := by
  unfold bosketref04_Same
  rw [if_neg (by simp)]
  have := bsame_l l hz l.length 0 KK (by omega) (by show _ < 200000; omega)
  rw [Int.natCast_zero] at this
  exact this
theorem start_any (p : List S40) (hz : p.length ≤ 1000) : ∀ (i fuel : Nat) (need : Int), i < p.length → i + 1 < fuel → -100000 + 3 * (i : Int) ≤ need → need ≤ 100000 - 3 * (i : Int) → ∃ r, rex_Start_l1 KK p fuel need (i : Int) = some r ∧ bosketref04_Start_l1 KK p fuel need (i : Int) = some r
  | i, f + 1, need, hi, hf, h1, h2 => by
    have htk := tk_le (lget p (i : Int)).f0
    have e1 : w64 (need + w64 (tk (lget p (i : Int)).f0 - 1)) = need + tk (lget p (i : Int)).f0 - 1 := by
      rw [w6 (x := tk (lget p (i : Int)).f0 - 1) (by omega) (by omega), w6 (by omega) (by omega)]; omega
    have e2 : w64 (w64 (need - 1) + tk (lget p (i : Int)).f0) = need + tk (lget p (i : Int)).f0 - 1 := by
      rw [w6 (x := need - 1) (by omega) (by omega), w6 (by omega) (by omega)]; omega
    rw [rex_Start_l1.eq_2, bosketref04_Start_l1.eq_2, takes_eq, rtakes_eq]
    have c1 : (0 : Int) ≤ (i : Int) := by omega
    have c2 : 0 ≤ (i : Int) ∧ (i : Int) < (p.length : Int) := ⟨by omega, by omega⟩
    simp only [if_pos c1, if_pos c2, Option.bind_some, e1, e2]
    by_cases q : need + tk (lget p (i : Int)).f0 - 1 = 0
    · simp only [if_pos q]; exact ⟨_, rfl, rfl⟩
    · simp only [if_neg q]
      rw [w6 (x := (i : Int) - 1) (by omega) (by omega)]
      cases i with
      | zero =>
        obtain ⟨f, rfl⟩ : ∃ g, f = g + 1 := ⟨f - 1, by omega⟩
        rw [rex_Start_l1.eq_2, bosketref04_Start_l1.eq_2, if_neg (by omega), if_neg (by omega)]
        exact ⟨0, rfl, rfl⟩
      | succ i =>
        have := start_any p hz i f (need + tk (lget p ((i + 1 : Nat) : Int)).f0 - 1) (by omega) (by omega) (by omega) (by omega)
        have ei : ((i + 1 : Nat) : Int) - 1 = (i : Int) := by omega
        rw [ei]; exact this
def st1s : List S40 → List (Vector Int 4)
  | [] => []
  | p :: l => if p.f0 = 1 then p.f1 :: st1s l else st1s l
theorem sets_l (p : List S40) (hz : p.length ≤ 1000) : ∀ (m i fuel : Nat) (a : List (Vector Int 4)), i + m = p.length → m < fuel → a.length ≤ i → rex_Sets_l2 KK p fuel a (i : Int) = some (a ++ st1s (p.drop i))
  | 0, i, f + 1, a, hi, _, _ => by
    rw [rex_Sets_l2.eq_2, if_neg (by omega), List.drop_of_length_le (by omega), st1s, List.append_nil]; rfl
  | m + 1, i, f + 1, a, hi, hf, ha => by
    have hi' : i < p.length := by omega
    rw [rex_Sets_l2.eq_2, if_pos (by omega), if_pos ⟨by omega, by omega⟩, pget _ i hi', List.drop_eq_getElem_cons hi', st1s]
    unfold rex_Sets_c1
    rw [w6 (by omega) (by omega)]
    by_cases b : p[i].f0 = 1
    · have ih := sets_l p hz m (i + 1) f (a ++ [p[i].f1]) (by omega) (by omega) (by simp; omega)
      rw [List.append_assoc] at ih
      rw [if_pos b, if_pos (by simp; omega), if_pos b]; exact_mod_cast ih
    · rw [if_neg b, if_neg b]
      exact_mod_cast sets_l p hz m (i + 1) f a (by omega) (by omega) (by omega)
theorem sets_eq (p : List S40) (hz : p.length ≤ 1000) : rex_Sets KK p = some (st1s p) := by
  have := sets_l p hz p.length 0 KK [] (by omega) (by show _ < 200000; omega) (by simp)
  rw [Int.natCast_zero, List.drop_zero, List.nil_append] at this
  exact this
end Go.Avl.TE
/- RexChecks: the plain law. -/
namespace Go.Avl.TE
open Go Go.RowKit Go.Proofs Go.Avl
set_option linter.all false
set_option maxRecDepth 10000

theorem awake04 : bosketlaw04_awake KK = some true := by decide +kernel
theorem vget_at (S T : List (Vector Int 4)) (x : Vector Int 4) : lget (S ++ x :: T) (S.length : Int) = x := by
  unfold lget
  rw [Int.toNat_natCast, List.getD, List.getElem?_append_right (Nat.le_refl _)]; simp
theorem chk_l4 (p : List S40) (hz : p.length ≤ 1000) (a1 t6 : Int) (S : List (Vector Int 4)) (hS : S = st1s p) : ∀ (m i fuel : Nat) (done : List (Vector Int 4)), i + m = p.length → m < fuel → done ++ st1s (p.drop i) = S → done.length ≤ i →
    bosketlaw04_RexChecks_l4 KK p a1 t6 S fuel (done.length : Int) (i : Int) = bosketlaw04_RexChecks_c2 KK p a1 t6 S (S.length : Int)
  | 0, i, f + 1, done, hi, _, hd, _ => by
    rw [List.drop_of_length_le (by omega), st1s, List.append_nil] at hd
    rw [bosketlaw04_RexChecks_l4.eq_2, if_neg (by omega), hd]
  | m + 1, i, f + 1, done, hi, hf, hd, hl => by
    have hi' : i < p.length := by omega
    rw [List.drop_eq_getElem_cons hi', st1s] at hd
    rw [bosketlaw04_RexChecks_l4.eq_2, if_pos (by omega), if_pos ⟨by omega, by omega⟩, pget _ i hi']
    unfold bosketlaw04_RexChecks_c3
    rw [w6 (x := (i : Int) + 1) (by omega) (by omega), w6 (x := (done.length : Int) + 1) (by omega) (by omega)]
    by_cases b : p[i].f0 = 1
    · rw [if_pos b] at hd
      have hlen : S.length = done.length + (st1s (p.drop (i + 1))).length + 1 := by rw [← hd]; simp; omega
      have ih := chk_l4 p hz a1 t6 S hS m (i + 1) f (done ++ [p[i].f1]) (by omega) (by omega) (by rw [List.append_assoc]; exact hd) (by simp; omega)
      have hg : lget S (done.length : Int) = p[i].f1 := by rw [← hd]; exact vget_at done _ _
      rw [if_neg (by simpa using b), if_neg (by omega), if_pos ⟨by omega, by omega⟩, if_pos ⟨by omega, by omega⟩, hg, Option.bind_some, if_neg (by simp)]
      rw [List.length_append, List.length_singleton] at ih
      exact_mod_cast ih
    · rw [if_neg b] at hd
      have ih := chk_l4 p hz a1 t6 S hS m (i + 1) f done (by omega) (by omega) hd (by omega)
      rw [if_pos b]; exact_mod_cast ih
theorem chk_l1 (p : List S40) (l : List (List S40)) (hl : ∀ x ∈ l, x.length ≤ 1000) (hz : l.length ≤ 10) (hc : bosketlaw04_RexChecks_c0 KK p l = some true) : ∀ (m i fuel : Nat), i + m = l.length → m < fuel → bosketlaw04_RexChecks_l1 KK p l l fuel (i : Int) = some true
  | 0, i, f + 1, hi, _ => by rw [bosketlaw04_RexChecks_l1.eq_2, if_neg (by omega)]; exact hc
  | m + 1, i, f + 1, hi, hf => by
    have hi' : i < l.length := by omega
    have ih := chk_l1 p l hl hz hc m (i + 1) f (by omega) (by omega)
    have e : lget l (i : Int) = l[i] := by simp [lget, List.getD, List.getElem?_eq_getElem hi']
    rw [bosketlaw04_RexChecks_l1.eq_2, if_pos (by omega), if_pos ⟨by omega, by omega⟩, if_pos ⟨by omega, by omega⟩, e, bsame_self _ (hl _ (List.getElem_mem hi')), Option.bind_some, if_neg (by decide), w6 (by omega) (by omega)]
    exact_mod_cast ih
theorem bosketlaw04_RexChecks_true (a0 : (List S40)) (a1 : Int) (h0 : wf23 a0) (h1 : wf32 a1) : ∃ k, bosketlaw04_RexChecks k a0 a1 = some true := by
  refine ⟨KK, ?_⟩
  unfold bosketlaw04_RexChecks
  rw [awake04, Option.bind_some, if_neg (by decide)]
  by_cases a60 : (60 : Int) < (a0.length : Int)
  · rw [if_pos a60]
  have hz : a0.length ≤ 1000 := by omega
  obtain ⟨c, c1, c2, c3⟩ := check_eq a0 (by omega) (fun x hx => U_of (h0.2 x hx).2)
  have l4 := chk_l4 a0 hz a1 c (st1s a0) rfl a0.length 0 KK [] (by omega) (by show _ < 200000; omega) rfl (by simp)
  rw [Int.natCast_zero, List.length_nil, Int.natCast_zero] at l4
  rw [if_neg a60, c2, Option.bind_some, c1, Option.bind_some, if_neg (by simp), sets_eq a0 hz, Option.bind_some, l4]
  unfold bosketlaw04_RexChecks_c2
  by_cases hc : c = 0
  · obtain ⟨t, ht, rfl⟩ := c3 hc
    have hp := ser_pos t
    have hu : 0 ≤ a1 ∧ a1 ≤ 65535 := by
      have h : (Lit.int .u16 a1).wf = true := h1
      simpa [Lit.wf, show IntKind.u16.min = 0 from rfl, show IntKind.u16.max = 65535 from rfl] using h
    have hm : w64 a1 = a1 := w6 (by omega) (by omega)
    obtain ⟨i, hi⟩ : ∃ i : Nat, a1.tmod ((ser t).length : Int) = (i : Int) := ⟨(a1.tmod ((ser t).length : Int)).toNat, by
      have := Int.tmod_nonneg ((ser t).length : Int) hu.1; omega⟩
    have hlt := Int.tmod_lt_of_pos a1 (show (0 : Int) < ((ser t).length : Int) by omega)
    obtain ⟨r, r1, r2⟩ := start_any (ser t) hz i KK 1 (by omega) (by show _ < 200000; omega) (by omega) (by omega)
    have s1 : rex_Start KK (ser t) (i : Int) = some r := r1
    have s2 : bosketref04_Start KK (ser t) (i : Int) = some r := r2
    have hpl : ∀ x ∈ parts t, x.length ≤ 1000 := by
      intro x hx
      cases t with
      | non => cases hx
      | one s => cases hx
      | cat a b =>
        have hlen : (ser (.cat a b)).length = (ser a).length + (ser b).length + 1 := by simp only [ser, List.length_append, List.length_cons, List.length_nil]
        rcases List.mem_cons.1 (show x ∈ [ser a, ser b] from hx) with rfl | hx
        · omega
        · rw [List.mem_singleton.1 hx]; omega
      | alt a b =>
        have hlen : (ser (.alt a b)).length = (ser a).length + (ser b).length + 1 := by simp only [ser, List.length_append, List.length_cons, List.length_nil]
        rcases List.mem_cons.1 (show x ∈ [ser a, ser b] from hx) with rfl | hx
        · omega
        · rw [List.mem_singleton.1 hx]; omega
      | un k a =>
        have hlen : (ser (.un k a)).length = (ser a).length + 1 := by simp [ser]
        rw [List.mem_singleton.1 (show x ∈ [ser a] from hx)]; omega
    have hpn : (parts t).length ≤ 10 := by cases t <;> simp [parts]
    rw [if_neg (by simpa using hc), Option.bind_some, if_neg (by simp), rparts_eq ht (by omega), parts_eq ht (by omega), Option.bind_some, Option.bind_some, if_neg (by simp), if_pos (by omega), hm, hi, s1, Option.bind_some, if_pos (by omega), s2, Option.bind_some, Option.bind_some, if_neg (by simp)]
    have l1 := chk_l1 (ser t) (parts t) hpl hpn (by
      unfold bosketlaw04_RexChecks_c0
      by_cases q : ((parts t).length : Int) = 0
      · rw [if_pos q]; rfl
      · rw [if_neg q, last_ix (by omega), if_pos ⟨by omega, by omega⟩, last_get]
        have hne : parts t ≠ [] := by intro h; rw [h] at q; exact q rfl
        have e : rex_Join KK (S40.mk (kind t) (setOf t)).f0 (parts t) = some (ser t) := join_back ht hz hne
        rw [e, Option.bind_some, rsame_self _ hz]; rfl) (parts t).length 0 KK (by omega) (by show _ < 200000; omega)
    exact_mod_cast l1
  · have : rex_Show KK a0 = some (ByteArray.mk #[]) := by
      unfold rex_Show
      rw [c1, Option.bind_some, if_pos hc]
    rw [if_pos hc, Option.bind_some, if_pos rfl, if_pos hc, this]; rfl
end Go.Avl.TE
