/- Parts: T3W, T3Z1, T3R1, T3Z2, T3R2, T3R4, T3R5, T3R6, T3R7, T3Z3, T3R8, T3R9, T3PureDerivThrough. -/
import Derived.Test.YtcdennkoccjacaaAF1
import Derived.Test.YtcdennkoccjacaaAv3
import Derived.Laws.Bits64b
import Derived.Test.YtcdennkoccjacaaAF2
import Derived.Test.YtcdennkoccjacaaAF3
import Derived.Test.YtcdennkoccjacaaAF4
/- Opening of the arguments; printed by avlaw.py. -/
namespace Go.Avl.T3
open Go Go.RowKit Go.Proofs Go.Avl
set_option linter.unusedVariables false
set_option maxRecDepth 100000
abbrev e59 (v : Vector ByteArray 2) : AV := .ar 1 (v.toList.map eStr)
theorem sz59 : tySize Try.prog 59 = some 2 := by rfl
theorem ag59 : tyAgg Try.prog 59 = some true := by rfl
theorem ag60 : tyAgg Try.prog 60 = some false := by rfl
abbrev wf3 : Int → Prop := (fun n : Int => (Lit.int .i64 n).wf = true)
theorem op3 : Opens Try.prog 3 eI64 wf3 := opens_int Try.underlying3
abbrev wf31 : Int → Prop := (fun n : Int => (Lit.int .u64 n).wf = true)
theorem op31 : Opens Try.prog 31 eU64 wf31 := opens_int Try.underlying31
abbrev wf33 : (Vector Int 4) → Prop := (fun l : Vector Int 4 => ∀ a ∈ l.toList, wf31 a)
theorem op33 : Opens Try.prog 33 e33 wf33 := opens_array Try.underlying33 sz31 sz33 op31
abbrev wf9 : ByteArray → Prop := (fun s : ByteArray => s.size ≤ 9223372036854775807)
theorem op9 : Opens Try.prog 9 eStr wf9 := opens_string Try.underlying9
abbrev wf82 : S82 → Prop := (fun x : S82 => wf3 x.f0 ∧ wf33 x.f1)
theorem op82 : Opens Try.prog 82 e82 wf82 := (opens_struct Try.underlying82 sz82 (opensF_cons rfl sz3 (by decide) op3 (opensF_cons rfl sz33 (by decide) op33 (opensF_nil _)))).map (fun p => S82.mk p.1 p.2.1) (fun _ => rfl) (fun _ h => ⟨h.1, h.2.1⟩)
abbrev wf58 : (List S82) → Prop := (fun l : List S82 => l.length ≤ 9223372036854775807 ∧ ∀ a ∈ l, wf82 a)
theorem op58 : Opens Try.prog 58 e58 wf58 := opens_slice Try.underlying58 sz82 op82
abbrev wf59 : (Vector ByteArray 2) → Prop := (fun l : Vector ByteArray 2 => ∀ a ∈ l.toList, wf9 a)
theorem op59 : Opens Try.prog 59 e59 wf59 := opens_array Try.underlying59 sz9 sz59 op9
abbrev wf60 : Int → Prop := (fun n : Int => (Lit.int .u16 n).wf = true)
theorem op60 : Opens Try.prog 60 eU16 wf60 := opens_int Try.underlying60
end Go.Avl.T3
/- Ported: texts between quotes. -/
namespace Go.Avl.T3
open Go Go.RowKit Go.Proofs Go.Avl
set_option linter.all false
set_option maxRecDepth 10000

def U (a : Vector Int 4) : Prop := ∀ j : Nat, j < 4 → 0 ≤ vget a (j : Int) ∧ vget a (j : Int) < 18446744073709551616
def wd (a : Vector Int 4) (j : Nat) : Nat := (vget a (j : Int)).toNat
/-- Is a byte in a set? -/
def tb (a : Vector Int 4) (b : Nat) : Bool := (wd a (b / 64)).testBit (b % 64)
theorem wd_eq {a : Vector Int 4} (h : U a) (j : Nat) (hj : j < 4) : vget a (j : Int) = (wd a j : Int) ∧ wd a j < 18446744073709551616 := by
  have := h j hj
  unfold wd; omega
theorem U_of {a : Vector Int 4} (h : wf33 a) : U a := by
  intro j hj
  have h1 : j < a.toList.length := by simpa using hj
  have h2 := h a.toList[j] (List.getElem_mem h1)
  have e : vget a (j : Int) = a.toList[j] := by
    unfold vget
    rw [Int.toNat_natCast, List.getD, List.getElem?_eq_getElem h1]; rfl
  rw [e]
  have h2' : (Lit.int .u64 a.toList[j]).wf = true := h2
  have : 0 ≤ a.toList[j] ∧ a.toList[j] ≤ 18446744073709551615 := by
    generalize a.toList[j] = z at h2'
    simpa [Lit.wf, show IntKind.u64.min = 0 from rfl, show IntKind.u64.max = 18446744073709551615 from rfl] using h2'
  omega
theorem shr_eq (x k : Nat) (hk : k ≤ 64) : Int.fdiv (x : Int) (2 ^ (min (k : Int).toNat IntKind.u64.bits)) = ((x / 2 ^ k : Nat) : Int) := by
  rw [Int.toNat_natCast, show min k IntKind.u64.bits = k by show min k 64 = k; omega, Int.fdiv_eq_ediv_of_nonneg _ (by exact_mod_cast Nat.zero_le _)]
  norm_cast
theorem ix_i64 (i : Nat) (hi : i < 100000) : IntKind.i64.wrap ((i : Int).tdiv 64) = ((i / 64 : Nat) : Int) := by
  have h1 : (i : Int).tdiv 64 = ((i / 64 : Nat) : Int) := by rw [Int.tdiv_eq_ediv_of_nonneg (by omega)]; omega
  rw [h1]; have := w64_id (n := ((i / 64 : Nat) : Int)) (by omega) (by omega); exact this
theorem tmod64 (i : Nat) : (i : Int).tmod 64 = ((i % 64 : Nat) : Int) := by rw [Int.tmod_eq_emod_of_nonneg (by omega)]; omega
theorem ix_u8 (i : Nat) (hi : i < 256) : IntKind.u8.wrap ((i : Int).tdiv 64) = ((i / 64 : Nat) : Int) := by
  have h1 : (i : Int).tdiv 64 = ((i / 64 : Nat) : Int) := by rw [Int.tdiv_eq_ediv_of_nonneg (by omega)]; omega
  rw [h1]; have := w8_id (n := ((i / 64 : Nat) : Int)) (by omega) (by omega); exact this
theorem rhas_l (x : Nat) (hx : x < 256) : ∀ (m i fuel : Nat) (w : Nat), i + m = x % 64 → m < fuel → w < 18446744073709551616 →
    bosketref02_Has_l1 200000 (x : Int) fuel (w : Int) (i : Int) = some (w.testBit m)
  | 0, i, f + 1, w, h, _, hw => by
    rw [bosketref02_Has_l1.eq_2, tmod64, if_neg (by omega), bosketref02_Has_c0, Nat.testBit_zero]
    congr 1
    rw [decide_eq_decide, Int.tmod_eq_emod_of_nonneg (by omega)]; omega
  | m + 1, i, f + 1, w, h, hf, hw => by
    have e : IntKind.u64.wrap ((w : Int).tdiv 2) = ((w / 2 : Nat) : Int) := by
      rw [Int.tdiv_eq_ediv_of_nonneg (by omega)]
      have := u64_eq ((w : Int) / 2)
      unfold u64 at this
      rw [this]; omega
    rw [bosketref02_Has_l1.eq_2, tmod64, if_pos (by omega), e, w64_id (by omega) (by omega)]
    have := rhas_l x hx m (i + 1) f (w / 2) (by omega) (by omega) (by omega)
    rw [Nat.testBit_succ]
    exact_mod_cast this
theorem rhas_eq {a : Vector Int 4} (ha : U a) {x : Nat} (hx : x < 256) : bosketref02_Has 200000 a (x : Int) = some (tb a x) := by
  obtain ⟨e, l⟩ := wd_eq ha (x / 64) (by omega)
  unfold bosketref02_Has
  rw [ix_i64 x (by omega), if_pos ⟨by omega, by omega⟩, e]
  have := rhas_l x hx (x % 64) 0 200000 (wd a (x / 64)) (by omega) (by omega) l
  exact this
theorem has_eq {a : Vector Int 4} (ha : U a) {x : Nat} (hx : x < 256) : byteset_Has 200000 a (x : Int) = some (tb a x) := by
  obtain ⟨e, l⟩ := wd_eq ha (x / 64) (by omega)
  unfold byteset_Has
  rw [ix_u8 x hx, tmod64, if_pos ⟨by omega, by omega⟩, if_pos (by omega), e, shr_eq _ (x % 64) (by omega)]
  have hb := bits_and_u64_nat (wd a (x / 64) / 2 ^ (x % 64)) 1 (Nat.lt_of_le_of_lt (Nat.div_le_self _ _) l) (by omega)
  have hb' : bits .and .u64 ((wd a (x / 64) / 2 ^ (x % 64) : Nat) : Int) 1 = _ := hb
  rw [hb']
  unfold tb
  congr 1
  rw [Nat.and_one_is_mod]
  have h2 : (wd a (x / 64)).testBit (x % 64) = (wd a (x / 64) / 2 ^ (x % 64)).testBit 0 := by
    rw [Nat.testBit_div_two_pow, Nat.zero_add]
  rw [h2, Nat.testBit_zero, decide_eq_decide]
  omega
end Go.Avl.T3
/- Regular expressions behind their parts: as trees; their parts. -/
namespace Go.Avl.T3
open Go Go.RowKit Go.Proofs Go.Avl
set_option linter.all false
set_option maxRecDepth 10000

abbrev KK : Nat := 200000
def VZ : Vector Int 4 := Vector.replicate 4 (0 : Int)
inductive Rx where
  | non
  | one (s : Vector Int 4)
  | cat (a b : Rx)
  | alt (a b : Rx)
  | un (k : Int) (a : Rx)
def ser : Rx → List S82
  | .non => [S82.mk 0 VZ]
  | .one s => [S82.mk 1 s]
  | .cat a b => ser a ++ ser b ++ [S82.mk 2 VZ]
  | .alt a b => ser a ++ ser b ++ [S82.mk 3 VZ]
  | .un k a => ser a ++ [S82.mk k VZ]
def ROK : Rx → Prop
  | .non => True
  | .one s => U s ∧ s ≠ VZ
  | .cat a b => ROK a ∧ ROK b
  | .alt a b => ROK a ∧ ROK b
  | .un k a => 4 ≤ k ∧ k ≤ 6 ∧ ROK a
theorem ser_pos : ∀ t : Rx, 0 < (ser t).length
  | .non => by simp [ser]
  | .one _ => by simp [ser]
  | .cat a b => by simp [ser]; omega
  | .alt a b => by simp [ser]; omega
  | .un k a => by simp [ser]
def tk (k : Int) : Int := if k = 0 ∨ k = 1 then 0 else if k = 2 ∨ k = 3 then 2 else if k = 4 ∨ k = 5 ∨ k = 6 then 1 else -1
theorem takes_eq (K : Nat) (k : Int) : rex_Takes K k = some (tk k) := by
  unfold rex_Takes rex_Takes_c2 rex_Takes_c1 rex_Takes_c0 tk
  by_cases h0 : k = 0
  · subst h0; rfl
  by_cases h1 : k = 1
  · subst h1; rfl
  by_cases h2 : k = 2
  · subst h2; rfl
  by_cases h3 : k = 3
  · subst h3; rfl
  by_cases h4 : k = 4
  · subst h4; rfl
  by_cases h5 : k = 5
  · subst h5; rfl
  by_cases h6 : k = 6
  · subst h6; rfl
  simp [h0, h1, h2, h3, h4, h5, h6]
theorem rtakes_eq (K : Nat) (k : Int) : bosketref04_Takes K k = some (tk k) := by
  unfold bosketref04_Takes tk
  by_cases a : k < 0
  · rw [if_pos a, Option.bind_some, if_pos rfl, if_neg (by omega), if_neg (by omega), if_neg (by omega)]
  by_cases b : (6 : Int) < k
  · rw [if_neg a, Option.bind_some, if_pos (by simpa using b), if_neg (by omega), if_neg (by omega), if_neg (by omega)]
  rw [if_neg a, Option.bind_some, if_neg (by simpa using b), if_pos ⟨by omega, by simp; omega⟩]
  have : k = 0 ∨ k = 1 ∨ k = 2 ∨ k = 3 ∨ k = 4 ∨ k = 5 ∨ k = 6 := by omega
  rcases this with rfl | rfl | rfl | rfl | rfl | rfl | rfl <;> rfl
theorem w6 {x : Int} (h0 : -1000000000000 ≤ x) (h1 : x ≤ 1000000000000) : w64 x = x := w64_id (by omega) (by omega)
theorem pget (l : List S82) (i : Nat) (h : i < l.length) : lget l (i : Int) = l[i] := by simp [lget, List.getD, List.getElem?_eq_getElem h]
theorem pget_at (pre : List S82) (p : S82) (post : List S82) : lget (pre ++ p :: post) (pre.length : Int) = p := by
  rw [pget _ _ (by simp)]; simp
/-- A stack of trees, the last one ahead. -/
def fl : List Rx → List S82
  | [] => []
  | t :: st => fl st ++ ser t
/-- May a piece stand behind so many? -/
def pOK (n : Int) (p : S82) : Bool := !(decide (tk p.f0 < 0) || decide (n < tk p.f0) || (decide (p.f0 = 1) == decide (p.f1 = VZ)))
theorem step_stk {st : List Rx} (hst : ∀ t ∈ st, ROK t) {p : S82} (hu : U p.f1) (h : pOK (st.length : Int) p = true) :
    ∃ st', (∀ t ∈ st', ROK t) ∧ fl st' = fl st ++ [p] ∧ (st'.length : Int) = st.length - tk p.f0 + 1 := by
  obtain ⟨k, s⟩ := p
  simp only [pOK, Bool.not_eq_true', Bool.or_eq_false_iff, decide_eq_false_iff_not] at h
  obtain ⟨⟨h1, h2⟩, h3⟩ := h
  have hz : k ≠ 1 → s = VZ := by
    intro hk
    have : (false == decide (s = VZ)) = false := by rwa [decide_eq_false hk] at h3
    by_cases q : s = VZ
    · exact q
    · rw [decide_eq_false q] at this; cases this
  have hk : k = 0 ∨ k = 1 ∨ k = 2 ∨ k = 3 ∨ k = 4 ∨ k = 5 ∨ k = 6 := by
    unfold tk at h1
    split at h1
    · omega
    · split at h1
      · omega
      · split at h1
        · omega
        · exact absurd (by decide) h1
  have un : ∀ k' : Int, 4 ≤ k' → k' ≤ 6 → k = k' → tk k = 1 → ∃ st', (∀ t ∈ st', ROK t) ∧ fl st' = fl st ++ [S82.mk k s] ∧ (st'.length : Int) = st.length - tk k + 1 := by
    intro k' a b e et
    cases st with
    | nil => rw [et] at h2; simp at h2
    | cons t st =>
      refine ⟨.un k t :: st, fun u hu => ?_, ?_, ?_⟩
      · rcases List.mem_cons.1 hu with rfl | hu
        · exact ⟨by omega, by omega, hst t (by simp)⟩
        · exact hst u (by simp [hu])
      · rw [hz (by omega)]; simp [fl, ser]
      · rw [et]; simp
  rcases hk with rfl | rfl | rfl | rfl | rfl | rfl | rfl
  · refine ⟨.non :: st, fun u hu => ?_, by rw [hz (by decide)]; rfl, by simp [tk]⟩
    rcases List.mem_cons.1 hu with rfl | hu
    · trivial
    · exact hst u hu
  · refine ⟨.one s :: st, fun u hu' => ?_, rfl, by simp [tk]⟩
    rcases List.mem_cons.1 hu' with rfl | hu'
    · refine ⟨hu, fun e => ?_⟩
      rw [decide_eq_true e] at h3; cases h3
    · exact hst u hu'
  · match st, hst, h2 with
    | [], _, h2 => simp [tk] at h2
    | [_], _, h2 => simp [tk] at h2
    | b :: a :: st, hst, _ =>
      refine ⟨.cat a b :: st, fun u hu => ?_, by rw [hz (by decide)]; simp [fl, ser], by simp [tk]; omega⟩
      rcases List.mem_cons.1 hu with rfl | hu
      · exact ⟨hst a (by simp), hst b (by simp)⟩
      · exact hst u (by simp [hu])
  · match st, hst, h2 with
    | [], _, h2 => simp [tk] at h2
    | [_], _, h2 => simp [tk] at h2
    | b :: a :: st, hst, _ =>
      refine ⟨.alt a b :: st, fun u hu => ?_, by rw [hz (by decide)]; simp [fl, ser], by simp [tk]; omega⟩
      rcases List.mem_cons.1 hu with rfl | hu
      · exact ⟨hst a (by simp), hst b (by simp)⟩
      · exact hst u (by simp [hu])
  · exact un 4 (by omega) (by omega) rfl rfl
  · exact un 5 (by omega) (by omega) rfl rfl
  · exact un 6 (by omega) (by omega) rfl rfl
theorem tk_le (k : Int) : -1 ≤ tk k ∧ tk k ≤ 2 := by unfold tk; repeat (first | omega | split)
theorem check_l (p : List S82) (hp : p.length ≤ 400) (hu : ∀ x ∈ p, U x.f1) : ∀ (m i fuel : Nat) (st : List Rx), i + m = p.length → m < fuel → fl st = p.take i → (∀ t ∈ st, ROK t) → st.length ≤ i →
    ∃ c, rex_Check_l1 KK p fuel (st.length : Int) (i : Int) = some c ∧ bosketref04_Check_l1 KK p fuel (st.length : Int) (i : Int) = some c ∧ (c = 0 → ∃ t, ROK t ∧ p = ser t)
  | 0, i, f + 1, st, hi, _, hfl, hst, hz => by
    rw [rex_Check_l1.eq_2, bosketref04_Check_l1.eq_2, if_neg (by omega), if_neg (by omega)]
    unfold rex_Check_c0 bosketref04_Check_c0
    by_cases a : (st.length : Int) = 1
    · rw [if_neg (by simpa using a)]
      refine ⟨0, rfl, rfl, fun _ => ?_⟩
      match st, a with
      | [t], _ =>
        rw [List.take_of_length_le (by omega)] at hfl
        exact ⟨t, hst t (by simp), by rw [← hfl]; simp [fl]⟩
    · rw [if_pos a]
      exact ⟨5, rfl, rfl, fun e => by cases e⟩
  | m + 1, i, f + 1, st, hi, hf, hfl, hst, hz => by
    have hi' : i < p.length := by omega
    have g : 0 ≤ (i : Int) ∧ (i : Int) < (p.length : Int) := ⟨by omega, by omega⟩
    have htk := tk_le p[i].f0
    rw [rex_Check_l1.eq_2, bosketref04_Check_l1.eq_2, if_pos g.2, if_pos g, if_pos g.2, if_pos g, pget p i hi', takes_eq, rtakes_eq, Option.bind_some, Option.bind_some, if_pos g, if_pos g]
    unfold byteset_Empty
    rw [Option.bind_some]
    have key : ∀ n : Int, (if tk p[i].f0 < 0 then some true else if n < tk p[i].f0 then some true else some (decide (p[i].f0 = 1) == decide (p[i].f1 = Vector.replicate 4 (0 : Int)))) = some (!pOK n p[i]) := by
      intro n
      unfold pOK
      by_cases a : tk p[i].f0 < 0
      · rw [if_pos a, decide_eq_true a]; rfl
      · rw [if_neg a, decide_eq_false a]
        by_cases b : n < tk p[i].f0
        · rw [if_pos b, decide_eq_true b]; rfl
        · rw [if_neg b, decide_eq_false b]; simp only [Bool.false_or, Bool.not_not]; rfl
    rw [key, Option.bind_some, Option.bind_some]
    cases e : pOK (st.length : Int) p[i] with
    | false => exact ⟨5, rfl, rfl, fun e => by cases e⟩
    | true =>
      obtain ⟨st', s1, s2, s3⟩ := step_stk hst (hu _ (List.getElem_mem hi')) e
      have s4 : (st'.length : Int) ≤ (i : Int) + 1 := by
        have : 0 ≤ tk p[i].f0 := by
          simp only [pOK, Bool.not_eq_true', Bool.or_eq_false_iff, decide_eq_false_iff_not] at e
          omega
        omega
      obtain ⟨c, c1, c2, c3⟩ := check_l p hp hu m (i + 1) f st' (by omega) (by omega) (by rw [s2, hfl]; exact List.take_append_getElem hi') s1 (by omega)
      rw [if_neg (by decide), if_neg (by decide), w6 (x := 1 - tk p[i].f0) (by omega) (by omega), w6 (x := (st.length : Int) + (1 - tk p[i].f0)) (by omega) (by omega), w6 (x := (st.length : Int) - tk p[i].f0) (by omega) (by omega), w6 (x := (st.length : Int) - tk p[i].f0 + 1) (by omega) (by omega), w6 (x := (i : Int) + 1) (by omega) (by omega),
        show (st.length : Int) + (1 - tk p[i].f0) = (st'.length : Int) by omega, show (st.length : Int) - tk p[i].f0 + 1 = (st'.length : Int) by omega, show (i : Int) + 1 = ((i + 1 : Nat) : Int) by omega]
      exact ⟨c, c1, c2, c3⟩
/-- Both checks; what passes is a tree's text. -/
theorem check_eq (p : List S82) (hp : p.length ≤ 400) (hu : ∀ x ∈ p, U x.f1) : ∃ c, rex_Check KK p = some c ∧ bosketref04_Check KK p = some c ∧ (c = 0 → ∃ t, ROK t ∧ p = ser t) := by
  unfold rex_Check bosketref04_Check
  rw [if_neg (by omega), if_neg (by omega)]
  exact check_l p hp hu p.length 0 KK [] (by omega) (by show p.length < 200000; omega) rfl (fun t ht => by cases ht) (by simp)
/-! Where a part begins. -/
theorem start_scan (p0 : List S82) (hz : p0.length ≤ 1000000) : ∀ (t : Rx), ROK t → ∀ (pre post : List S82) (need : Int) (f : Nat), p0 = pre ++ ser t ++ post → 1 ≤ need → need ≤ 1000000000 - (ser t).length →
    rex_Start_l1 KK p0 (f + (ser t).length) need ((pre.length : Int) + (ser t).length - 1) = (if need = 1 then some (pre.length : Int) else rex_Start_l1 KK p0 f (need - 1) ((pre.length : Int) - 1)) ∧
    bosketref04_Start_l1 KK p0 (f + (ser t).length) need ((pre.length : Int) + (ser t).length - 1) = (if need = 1 then some (pre.length : Int) else bosketref04_Start_l1 KK p0 f (need - 1) ((pre.length : Int) - 1)) := by
  -- one piece back
  have back : ∀ (pre : List S82) (p : S82) (post : List S82) (need : Int) (f : Nat), p0 = pre ++ p :: post → 1 ≤ need → need ≤ 1000000000 → 0 ≤ tk p.f0 →
      rex_Start_l1 KK p0 (f + 1) need (pre.length : Int) = (if need - 1 + tk p.f0 = 0 then some (pre.length : Int) else rex_Start_l1 KK p0 f (need - 1 + tk p.f0) ((pre.length : Int) - 1)) ∧
      bosketref04_Start_l1 KK p0 (f + 1) need (pre.length : Int) = (if need - 1 + tk p.f0 = 0 then some (pre.length : Int) else bosketref04_Start_l1 KK p0 f (need - 1 + tk p.f0) ((pre.length : Int) - 1)) := by
    intro pre p post need f e h1 h2 h3
    have hl : pre.length < p0.length := by rw [e]; simp
    have htk := tk_le p.f0
    have hg : lget p0 (pre.length : Int) = p := by rw [e]; exact pget_at pre p post
    have g0 : (0 : Int) ≤ (pre.length : Int) := by omega
    have g1 : 0 ≤ (pre.length : Int) ∧ (pre.length : Int) < (p0.length : Int) := ⟨by omega, by omega⟩
    constructor
    · rw [rex_Start_l1.eq_2, if_pos g0, if_pos g1, hg, takes_eq, Option.bind_some, w6 (x := tk p.f0 - 1) (by omega) (by omega), w6 (x := need + (tk p.f0 - 1)) (by omega) (by omega), w6 (x := (pre.length : Int) - 1) (by omega) (by omega), show need + (tk p.f0 - 1) = need - 1 + tk p.f0 by omega]
    · rw [bosketref04_Start_l1.eq_2, if_pos g0, if_pos g1, hg, rtakes_eq, Option.bind_some, w6 (x := need - 1) (by omega) (by omega), w6 (x := need - 1 + tk p.f0) (by omega) (by omega), w6 (x := (pre.length : Int) - 1) (by omega) (by omega)]
  intro t
  have two : ∀ (k : Int) (a b : Rx), tk k = 2 → (∀ (pre post : List S82) (need : Int) (f : Nat), p0 = pre ++ ser a ++ post → 1 ≤ need → need ≤ 1000000000 - (ser a).length →
    rex_Start_l1 KK p0 (f + (ser a).length) need ((pre.length : Int) + (ser a).length - 1) = (if need = 1 then some (pre.length : Int) else rex_Start_l1 KK p0 f (need - 1) ((pre.length : Int) - 1)) ∧
    bosketref04_Start_l1 KK p0 (f + (ser a).length) need ((pre.length : Int) + (ser a).length - 1) = (if need = 1 then some (pre.length : Int) else bosketref04_Start_l1 KK p0 f (need - 1) ((pre.length : Int) - 1))) →
    (∀ (pre post : List S82) (need : Int) (f : Nat), p0 = pre ++ ser b ++ post → 1 ≤ need → need ≤ 1000000000 - (ser b).length →
    rex_Start_l1 KK p0 (f + (ser b).length) need ((pre.length : Int) + (ser b).length - 1) = (if need = 1 then some (pre.length : Int) else rex_Start_l1 KK p0 f (need - 1) ((pre.length : Int) - 1)) ∧
    bosketref04_Start_l1 KK p0 (f + (ser b).length) need ((pre.length : Int) + (ser b).length - 1) = (if need = 1 then some (pre.length : Int) else bosketref04_Start_l1 KK p0 f (need - 1) ((pre.length : Int) - 1))) →
    ∀ (pre post : List S82) (need : Int) (f : Nat), p0 = pre ++ (ser a ++ ser b ++ [S82.mk k VZ]) ++ post → 1 ≤ need → need ≤ 1000000000 - (ser a ++ ser b ++ [S82.mk k VZ]).length →
    rex_Start_l1 KK p0 (f + (ser a ++ ser b ++ [S82.mk k VZ]).length) need ((pre.length : Int) + (ser a ++ ser b ++ [S82.mk k VZ]).length - 1) = (if need = 1 then some (pre.length : Int) else rex_Start_l1 KK p0 f (need - 1) ((pre.length : Int) - 1)) ∧
    bosketref04_Start_l1 KK p0 (f + (ser a ++ ser b ++ [S82.mk k VZ]).length) need ((pre.length : Int) + (ser a ++ ser b ++ [S82.mk k VZ]).length - 1) = (if need = 1 then some (pre.length : Int) else bosketref04_Start_l1 KK p0 f (need - 1) ((pre.length : Int) - 1)) := by
    intro k a b hk iha ihb pre post need f e h1 h2
    have hla := ser_pos a
    have hlb := ser_pos b
    have hlen : (ser a ++ ser b ++ [S82.mk k VZ]).length = (ser a).length + (ser b).length + 1 := by simp only [List.length_append, List.length_cons, List.length_nil]
    rw [hlen] at h2 ⊢
    have b1 := back (pre ++ ser a ++ ser b) (S82.mk k VZ) post need (f + (ser a).length + (ser b).length) (by rw [e]; simp) h1 (by omega) (by rw [hk]; omega)
    rw [hk, if_neg (by omega), if_neg (by omega)] at b1
    have b2 := ihb (pre ++ ser a) (S82.mk k VZ :: post) (need - 1 + 2) (f + (ser a).length) (by rw [e]; simp) (by omega) (by omega)
    rw [if_neg (by omega), if_neg (by omega)] at b2
    have b3 := iha pre (ser b ++ S82.mk k VZ :: post) need f (by rw [e]; simp) h1 (by omega)
    have i1 : ((pre ++ ser a ++ ser b).length : Int) = (pre.length : Int) + (((ser a).length + (ser b).length + 1 : Nat) : Int) - 1 := by simp only [List.length_append, List.length_cons, List.length_nil]; omega
    have i2 : ((pre ++ ser a ++ ser b).length : Int) - 1 = ((pre ++ ser a).length : Int) + (ser b).length - 1 := by simp only [List.length_append, List.length_cons, List.length_nil]; omega
    have i3 : ((pre ++ ser a).length : Int) - 1 = (pre.length : Int) + (ser a).length - 1 := by simp only [List.length_append, List.length_cons, List.length_nil]; omega
    have i4 : need - 1 + 2 - 1 = need := by omega
    rw [i2] at b1
    rw [i1] at b1
    rw [i3, i4] at b2
    rw [show f + ((ser a).length + (ser b).length + 1) = f + (ser a).length + (ser b).length + 1 by omega]
    exact ⟨b1.1.trans (b2.1.trans b3.1), b1.2.trans (b2.2.trans b3.2)⟩
  induction t with
  | non =>
    intro _ pre post need f e h1 h2
    have := back pre (S82.mk 0 VZ) post need f (by rw [e]; simp [ser]) h1 (by simp [ser] at h2; omega) (by decide)
    have e0 : need - 1 + tk 0 = need - 1 := by rw [show tk 0 = 0 from rfl]; omega
    rw [e0] at this
    have i1 : (pre.length : Int) + ((ser .non).length : Int) - 1 = (pre.length : Int) := by simp [ser]
    rw [i1]
    by_cases q : need = 1
    · rw [if_pos q, if_pos q]; rw [if_pos (by omega), if_pos (by omega)] at this; exact this
    · rw [if_neg q, if_neg q]; rw [if_neg (by omega), if_neg (by omega)] at this; exact this
  | one s =>
    intro _ pre post need f e h1 h2
    have := back pre (S82.mk 1 s) post need f (by rw [e]; simp [ser]) h1 (by simp [ser] at h2; omega) (by show 0 ≤ tk 1; decide)
    have e0 : need - 1 + tk (S82.mk 1 s).f0 = need - 1 := by rw [show tk (S82.mk 1 s).f0 = 0 from rfl]; omega
    rw [e0] at this
    have i1 : (pre.length : Int) + ((ser (.one s)).length : Int) - 1 = (pre.length : Int) := by simp [ser]
    rw [i1]
    by_cases q : need = 1
    · rw [if_pos q, if_pos q]; rw [if_pos (by omega), if_pos (by omega)] at this; exact this
    · rw [if_neg q, if_neg q]; rw [if_neg (by omega), if_neg (by omega)] at this; exact this
  | cat a b iha ihb =>
    intro hok pre post need f e h1 h2
    exact two 2 a b rfl (iha hok.1) (ihb hok.2) pre post need f e h1 h2
  | alt a b iha ihb =>
    intro hok pre post need f e h1 h2
    exact two 3 a b rfl (iha hok.1) (ihb hok.2) pre post need f e h1 h2
  | un k a iha =>
    intro hok pre post need f e h1 h2
    have hk : tk k = 1 := by
      have : k = 4 ∨ k = 5 ∨ k = 6 := by have := hok.1; have := hok.2.1; omega
      rcases this with rfl | rfl | rfl <;> rfl
    have hla := ser_pos a
    have hlen : (ser (.un k a)).length = (ser a).length + 1 := by simp [ser]
    rw [hlen] at h2 ⊢
    have b1 := back (pre ++ ser a) (S82.mk k VZ) post need (f + (ser a).length) (by rw [e]; simp [ser]) h1 (by omega) (by show 0 ≤ tk k; omega)
    rw [show tk (S82.mk k VZ).f0 = 1 from hk, if_neg (by omega), if_neg (by omega), show need - 1 + 1 = need by omega] at b1
    have b3 := iha hok.2.2 pre (S82.mk k VZ :: post) need f (by rw [e]; simp [ser]) h1 (by omega)
    have i1 : ((pre ++ ser a).length : Int) = (pre.length : Int) + (((ser a).length + 1 : Nat) : Int) - 1 := by simp only [List.length_append, List.length_cons, List.length_nil]; omega
    have i3 : ((pre ++ ser a).length : Int) - 1 = (pre.length : Int) + (ser a).length - 1 := by simp only [List.length_append, List.length_cons, List.length_nil]; omega
    rw [i3] at b1
    rw [i1] at b1
    rw [show f + ((ser a).length + 1) = f + (ser a).length + 1 by omega]
    exact ⟨b1.1.trans b3.1, b1.2.trans b3.2⟩
theorem start_eq {p0 : List S82} (hz : p0.length ≤ 100000) {t : Rx} (ht : ROK t) {pre post : List S82} (e : p0 = pre ++ ser t ++ post) :
    rex_Start KK p0 ((pre.length : Int) + (ser t).length - 1) = some (pre.length : Int) ∧ bosketref04_Start KK p0 ((pre.length : Int) + (ser t).length - 1) = some (pre.length : Int) := by
  have hl : (ser t).length ≤ p0.length := by rw [e]; simp; omega
  have := start_scan p0 (by omega) t ht pre post 1 (KK - (ser t).length) e (by omega) (by omega)
  rw [if_pos rfl, if_pos rfl, show KK - (ser t).length + (ser t).length = KK by show 200000 - _ + _ = 200000; omega] at this
  exact this
/-! Parts. -/
def parts : Rx → List (List S82)
  | .cat a b => [ser a, ser b]
  | .alt a b => [ser a, ser b]
  | .un _ a => [ser a]
  | _ => []
def kind : Rx → Int
  | .non => 0
  | .one _ => 1
  | .cat _ _ => 2
  | .alt _ _ => 3
  | .un k _ => k
theorem last_ix {t : Rx} (hz : (ser t).length ≤ 100000) : w64 (((ser t).length : Int) - 1) = (((ser t).length - 1 : Nat) : Int) := by
  have := ser_pos t
  rw [w6 (by omega) (by omega)]; omega
def setOf : Rx → Vector Int 4
  | .one s => s
  | _ => VZ
theorem last_get : ∀ (t : Rx), lget (ser t) (((ser t).length - 1 : Nat) : Int) = S82.mk (kind t) (setOf t)
  | .non => rfl
  | .one s => rfl
  | .cat a b => by
    have : (ser (.cat a b)).length - 1 = (ser a ++ ser b).length := by simp [ser]
    rw [this]; exact pget_at (ser a ++ ser b) _ []
  | .alt a b => by
    have : (ser (.alt a b)).length - 1 = (ser a ++ ser b).length := by simp [ser]
    rw [this]; exact pget_at (ser a ++ ser b) _ []
  | .un k a => by
    have : (ser (.un k a)).length - 1 = (ser a).length := by simp [ser]
    rw [this]; exact pget_at (ser a) _ []
theorem lcut_mid (a b c : List S82) : lcut (a ++ b ++ c) (a.length : Int) ((a.length + b.length : Nat) : Int) = b := by
  unfold lcut
  rw [Int.toNat_natCast, Int.toNat_natCast, List.take_append_of_le_length (by simp), List.take_of_length_le (by simp), List.drop_left]
theorem lcut_pre (a b : List S82) : lcut (a ++ b) 0 (a.length : Int) = a := by
  unfold lcut
  rw [Int.toNat_natCast, List.take_left]; rfl
theorem clone_eq (l : List S82) (hz : l.length ≤ 1000000) : slices_Clone_api_Regex_api_Piece_ KK l = some l ∧ slices_Clone_api_Regex_api_Piece__own KK l = some l := by
  unfold slices_Clone_api_Regex_api_Piece_ slices_Clone_api_Regex_api_Piece__own
  rw [List.nil_append, if_pos (by omega)]; exact ⟨rfl, rfl⟩
theorem parts_eq {t : Rx} (ht : ROK t) (hz : (ser t).length ≤ 100000) : rex_Parts KK (ser t) = some (parts t) := by
  have hp := ser_pos t
  have hx := last_ix hz
  unfold rex_Parts
  rw [if_neg (by omega), hx, if_pos ⟨by omega, by omega⟩, last_get, takes_eq, Option.bind_some]
  have two : ∀ (k : Int) (a b : Rx), ROK a → ROK b → ser t = ser a ++ ser b ++ [S82.mk k VZ] → (rex_Start KK (ser t) (w64 (((ser t).length : Int) - 2))).bind (fun t12 =>
      if 0 ≤ (0 : Int) ∧ (0 : Int) ≤ t12 ∧ t12 ≤ ((ser t).length : Int) then (slices_Clone_api_Regex_api_Piece_ KK (lcut (ser t) (0 : Int) t12)).bind fun t14 =>
      if 0 ≤ t12 ∧ t12 ≤ (((ser t).length - 1 : Nat) : Int) ∧ (((ser t).length - 1 : Nat) : Int) ≤ ((ser t).length : Int) then (slices_Clone_api_Regex_api_Piece_ KK (lcut (ser t) t12 (((ser t).length - 1 : Nat) : Int))).bind fun t16 => some [t14, t16] else none else none) = some [ser a, ser b] := by
    intro k a b ha hb e
    have hlen : (ser t).length = (ser a).length + (ser b).length + 1 := by rw [e]; simp only [List.length_append, List.length_cons, List.length_nil]
    have hla := ser_pos a
    have hlb := ser_pos b
    have hs := start_eq (p0 := ser t) hz hb (pre := ser a) (post := [S82.mk k VZ]) (by rw [e])
    rw [w6 (x := ((ser t).length : Int) - 2) (by omega) (by omega), show ((ser t).length : Int) - 2 = ((ser a).length : Int) + (ser b).length - 1 by omega, hs.1, Option.bind_some, if_pos ⟨by omega, by omega, by omega⟩]
    have c1 : lcut (ser t) 0 ((ser a).length : Int) = ser a := by rw [e, List.append_assoc]; exact lcut_pre (ser a) _
    have c2 : lcut (ser t) ((ser a).length : Int) (((ser t).length - 1 : Nat) : Int) = ser b := by
      rw [show (ser t).length - 1 = (ser a).length + (ser b).length by omega, e]; exact lcut_mid (ser a) (ser b) _
    rw [c1, c2, (clone_eq (ser a) (by omega)).1, Option.bind_some, if_pos ⟨by omega, by omega, by omega⟩, (clone_eq (ser b) (by omega)).1]; rfl
  cases t with
  | non => rfl
  | one s => rfl
  | cat a b =>
    show (if tk 2 = 1 then _ else if tk 2 = 2 then _ else _) = _
    rw [if_neg (by decide), if_pos (by decide)]
    exact two 2 a b ht.1 ht.2 rfl
  | alt a b =>
    show (if tk 3 = 1 then _ else if tk 3 = 2 then _ else _) = _
    rw [if_neg (by decide), if_pos (by decide)]
    exact two 3 a b ht.1 ht.2 rfl
  | un k a =>
    have hk : tk k = 1 := by
      have : k = 4 ∨ k = 5 ∨ k = 6 := by have := ht.1; have := ht.2.1; omega
      rcases this with rfl | rfl | rfl <;> rfl
    show (if tk k = 1 then _ else if tk k = 2 then _ else _) = _
    have hlen : (ser (.un k a)).length - 1 = (ser a).length := by simp [ser]
    have hlen2 : (ser (.un k a)).length = (ser a).length + 1 := by simp [ser]
    rw [if_pos hk, hlen, if_pos ⟨by omega, by omega, by omega⟩]
    have c1 : lcut (ser (.un k a)) 0 ((ser a).length : Int) = ser a := lcut_pre (ser a) _
    rw [c1, (clone_eq (ser a) (by omega)).2]; rfl
theorem rparts_eq {t : Rx} (ht : ROK t) (hz : (ser t).length ≤ 100000) : bosketref04_Parts KK (ser t) = some (parts t) := by
  have hp := ser_pos t
  have hx := last_ix hz
  unfold bosketref04_Parts
  rw [hx, if_pos ⟨by omega, by omega⟩, last_get, rtakes_eq, Option.bind_some]
  have stop : ∀ (f : Nat) (acc : List (List S82)) (x : Int), bosketref04_Parts_l1 KK (ser t) (f + 1) acc x 0 = some acc := by
    intro f acc x
    rw [bosketref04_Parts_l1.eq_2, if_neg (by omega), bosketref04_Parts_c0]
  have go : ∀ (f : Nat) (acc : List (List S82)) (n : Int) (pre post : List S82) (a : Rx), ROK a → ser t = pre ++ ser a ++ post → acc.length ≤ 10 → 0 < n → n ≤ 2 →
      bosketref04_Parts_l1 KK (ser t) (f + 1) acc ((pre.length + (ser a).length : Nat) : Int) n = bosketref04_Parts_l1 KK (ser t) f ([ser a] ++ acc) (pre.length : Int) (n - 1) := by
    intro f acc n pre post a ha e hl h0 h2
    have hlen : (ser t).length = pre.length + (ser a).length + post.length := by rw [e]; simp; omega
    have hla := ser_pos a
    have hs := start_eq (p0 := ser t) hz ha e
    have c2 : lcut (ser t) (pre.length : Int) ((pre.length + (ser a).length : Nat) : Int) = ser a := by rw [e]; exact lcut_mid pre (ser a) _
    rw [bosketref04_Parts_l1.eq_2, if_pos h0, w6 (x := ((pre.length + (ser a).length : Nat) : Int) - 1) (by omega) (by omega), show ((pre.length + (ser a).length : Nat) : Int) - 1 = (pre.length : Int) + (ser a).length - 1 by omega, hs.2, Option.bind_some, if_pos ⟨by omega, by omega, by omega⟩, c2, if_pos (by simp; omega), w6 (x := n - 1) (by omega) (by omega)]
  have two : ∀ (k : Int) (a b : Rx), ROK a → ROK b → ser t = ser a ++ ser b ++ [S82.mk k VZ] → bosketref04_Parts_l1 KK (ser t) KK [] (((ser t).length - 1 : Nat) : Int) 2 = some [ser a, ser b] := by
    intro k a b ha hb e
    have hlen : (ser t).length - 1 = (ser a).length + (ser b).length := by rw [e]; simp
    rw [hlen]
    have g1 := go 199999 [] 2 (ser a) [S82.mk k VZ] b hb (by rw [e]) (by simp) (by omega) (by omega)
    have g2 := go 199998 [ser b] (2 - 1) [] (ser b ++ [S82.mk k VZ]) a ha (by rw [e]; simp) (by simp) (by omega) (by omega)
    refine g1.trans ?_
    rw [List.append_nil]
    have i0 : ((([] : List S82).length + (ser a).length : Nat) : Int) = ((ser a).length : Int) := by simp
    rw [i0] at g2
    refine g2.trans ?_
    exact stop 199997 _ _
  cases t with
  | non => exact stop 199999 _ _
  | one s => exact stop 199999 _ _
  | cat a b => exact two 2 a b ht.1 ht.2 rfl
  | alt a b => exact two 3 a b ht.1 ht.2 rfl
  | un k a =>
    have hk : tk k = 1 := by
      have : k = 4 ∨ k = 5 ∨ k = 6 := by have := ht.1; have := ht.2.1; omega
      rcases this with rfl | rfl | rfl <;> rfl
    show bosketref04_Parts_l1 KK (ser (.un k a)) KK [] (((ser (.un k a)).length - 1 : Nat) : Int) (tk k) = _
    have hlen : (ser (.un k a)).length - 1 = ([] : List S82).length + (ser a).length := by simp [ser]
    rw [hk, hlen]
    refine (go 199999 [] 1 [] [S82.mk k VZ] a ht.2.2 (by simp [ser]) (by simp) (by omega) (by omega)).trans ?_
    exact stop 199998 _ _
end Go.Avl.T3
/- Ported: texts between quotes. -/
namespace Go.Avl.T3
open Go Go.RowKit Go.Proofs Go.Avl
set_option linter.all false
set_option maxRecDepth 10000

end Go.Avl.T3
/- Regular expressions as trees: empty, first bytes, what is left behind a byte. -/
namespace Go.Avl.T3
open Go Go.RowKit Go.Proofs Go.Avl
set_option linter.all false
set_option maxRecDepth 10000

def nul : Rx → Bool
  | .non => true
  | .one _ => false
  | .cat a b => nul a && nul b
  | .alt a b => nul a || nul b
  | .un k a => if k = 5 then nul a else true
theorem bget {α : Type} [Inhabited α] (l : List α) (x : α) (m : List α) : lget (l ++ x :: m) (l.length : Int) = x := by
  unfold lget
  rw [Int.toNat_natCast, List.getD, List.getElem?_append_right (Nat.le_refl _)]; simp
theorem bget1 {α : Type} [Inhabited α] (l : List α) (x y : α) : lget (l ++ [x, y]) ((l.length : Int) + 1) = y := by
  have := bget (l ++ [x]) y []
  rw [List.append_assoc] at this
  have e : ((l ++ [x]).length : Int) = (l.length : Int) + 1 := by simp
  rw [e] at this
  exact this
theorem bset {α : Type} (l : List α) (x y : α) : lset (l ++ [x]) (l.length : Int) y = l ++ [y] := by
  unfold lset
  rw [Int.toNat_natCast, List.set_append_right _ _ (Nat.le_refl _)]; simp
theorem btake {α : Type} (l : List α) (m : List α) : (l ++ m).take l.length = l := List.take_left ..
theorem emp_scan (p0 : List S82) (hz : p0.length ≤ 1000000) : ∀ (t : Rx), ROK t → ∀ (pre post : List S82) (st : List Bool) (f : Nat), p0 = pre ++ ser t ++ post → st.length + (ser t).length ≤ 2000000 →
    deriv_Empty_l3 KK p0 (f + (ser t).length) st (pre.length : Int) = deriv_Empty_l3 KK p0 f (st ++ [nul t]) ((pre.length + (ser t).length : Nat) : Int) := by
  have one : ∀ (pre : List S82) (p : S82) (post : List S82) (f : Nat) (st : List Bool), p0 = pre ++ p :: post →
      deriv_Empty_l3 KK p0 (f + 1) st (pre.length : Int) = (if p.f0 = 0 then if (st ++ ([true] : List Bool)).length * 1 ≤ 140737488355328 then deriv_Empty_l3 KK p0 f (st ++ [true]) ((pre.length + 1 : Nat) : Int) else none
        else if p.f0 = 1 then if (st ++ ([false] : List Bool)).length * 1 ≤ 140737488355328 then deriv_Empty_l3 KK p0 f (st ++ [false]) ((pre.length + 1 : Nat) : Int) else none
        else deriv_Empty_l3 KK p0 (f + 1) st (pre.length : Int)) := by
    intro pre p post f st e
    have hl : pre.length < p0.length := by rw [e]; simp
    have hg : lget p0 (pre.length : Int) = p := by rw [e]; exact pget_at pre p post
    by_cases h0 : p.f0 = 0
    · rw [if_pos h0, deriv_Empty_l3.eq_2, if_pos (by omega), if_pos ⟨by omega, by omega⟩, hg, if_pos h0]
      unfold deriv_Empty_c1
      rw [w6 (by omega) (by omega)]; rfl
    · rw [if_neg h0]
      by_cases h1 : p.f0 = 1
      · rw [if_pos h1, deriv_Empty_l3.eq_2, if_pos (by omega), if_pos ⟨by omega, by omega⟩, hg, if_neg h0, if_pos h1]
        unfold deriv_Empty_c1
        rw [w6 (by omega) (by omega)]; rfl
      · rw [if_neg h1]
  have two : ∀ (pre : List S82) (p : S82) (post : List S82) (f : Nat) (st : List Bool) (x y : Bool), p0 = pre ++ p :: post → st.length ≤ 2000000 → (p.f0 = 2 ∨ p.f0 = 3) →
      deriv_Empty_l3 KK p0 (f + 1) (st ++ [x, y]) (pre.length : Int) = deriv_Empty_l3 KK p0 f (st ++ [if p.f0 = 2 then x && y else x || y]) ((pre.length + 1 : Nat) : Int) := by
    intro pre p post f st x y e hs hk
    have hl : pre.length < p0.length := by rw [e]; simp
    have hg : lget p0 (pre.length : Int) = p := by rw [e]; exact pget_at pre p post
    have i2 : w64 (((st ++ [x, y]).length : Int) - 2) = (st.length : Int) := by rw [w6 (by simp only [List.length_append, List.length_cons, List.length_nil]; omega) (by simp only [List.length_append, List.length_cons, List.length_nil]; omega)]; simp only [List.length_append, List.length_cons, List.length_nil]; omega
    have i1 : w64 (((st ++ [x, y]).length : Int) - 1) = (st.length : Int) + 1 := by rw [w6 (by simp only [List.length_append, List.length_cons, List.length_nil]; omega) (by simp only [List.length_append, List.length_cons, List.length_nil]; omega)]; simp only [List.length_append, List.length_cons, List.length_nil]; omega
    have g2 : lget (st ++ [x, y]) (st.length : Int) = x := bget st x [y]
    have g1 : lget (st ++ [x, y]) ((st.length : Int) + 1) = y := bget1 st x y
    have tk2 : (st ++ [x, y]).take (st.length : Int).toNat = st := by rw [Int.toNat_natCast]; exact btake st _
    have b0 : 0 ≤ (st.length : Int) ∧ (st.length : Int) ≤ ((st ++ [x, y]).length : Int) := ⟨by omega, by simp; omega⟩
    have b1 : 0 ≤ (st.length : Int) ∧ (st.length : Int) < ((st ++ [x, y]).length : Int) := ⟨by omega, by simp; omega⟩
    have b2 : 0 ≤ (st.length : Int) + 1 ∧ (st.length : Int) + 1 < ((st ++ [x, y]).length : Int) := ⟨by omega, by simp only [List.length_append, List.length_cons, List.length_nil]; omega⟩
    have hlen : ∀ z : Bool, (st ++ ([z] : List Bool)).length * 1 ≤ 140737488355328 := fun z => by simp; omega
    rw [deriv_Empty_l3.eq_2, if_pos (by omega), if_pos ⟨by omega, by omega⟩, hg]
    unfold deriv_Empty_c1
    rw [i1, i2, g1, g2, tk2, w6 (x := (pre.length : Int) + 1) (by omega) (by omega)]
    rcases hk with hk | hk
    · have er : (if p.f0 = 2 then x && y else x || y) = (x && y) := if_pos hk
      rw [er, if_neg (by omega), if_neg (by omega), if_pos hk, if_pos b0, if_pos b1]
      cases x with
      | true => rw [if_pos rfl, if_pos b2, if_pos (hlen _)]; rfl
      | false => rw [if_neg (by decide), if_pos (hlen _)]; rfl
    · have er : (if p.f0 = 2 then x && y else x || y) = (x || y) := if_neg (by omega)
      rw [er, if_neg (by omega), if_neg (by omega), if_neg (by omega), if_pos hk, if_pos b0, if_pos b1]
      cases x with
      | true => rw [if_pos rfl, if_pos (hlen _)]; rfl
      | false => rw [if_neg (by decide), if_pos b2, if_pos (hlen _)]; rfl
  have top : ∀ (pre : List S82) (p : S82) (post : List S82) (f : Nat) (st : List Bool) (x : Bool), p0 = pre ++ p :: post → st.length ≤ 2000000 → (p.f0 = 4 ∨ p.f0 = 5 ∨ p.f0 = 6) →
      deriv_Empty_l3 KK p0 (f + 1) (st ++ [x]) (pre.length : Int) = deriv_Empty_l3 KK p0 f (st ++ [if p.f0 = 5 then x else true]) ((pre.length + 1 : Nat) : Int) := by
    intro pre p post f st x e hs hk
    have hl : pre.length < p0.length := by rw [e]; simp
    have hg : lget p0 (pre.length : Int) = p := by rw [e]; exact pget_at pre p post
    have i1 : w64 (((st ++ [x]).length : Int) - 1) = (st.length : Int) := by rw [w6 (by simp only [List.length_append, List.length_cons, List.length_nil]; omega) (by simp only [List.length_append, List.length_cons, List.length_nil]; omega)]; simp only [List.length_append, List.length_cons, List.length_nil]; omega
    have b1 : 0 ≤ (st.length : Int) ∧ (st.length : Int) < ((st ++ [x]).length : Int) := ⟨by omega, by simp only [List.length_append, List.length_cons, List.length_nil]; omega⟩
    rw [deriv_Empty_l3.eq_2, if_pos (by omega), if_pos ⟨by omega, by omega⟩, hg, if_neg (by omega), if_neg (by omega), if_neg (by omega), if_neg (by omega)]
    unfold deriv_Empty_c2 deriv_Empty_c1
    rw [i1, bset, w6 (x := (pre.length : Int) + 1) (by omega) (by omega)]
    rcases hk with hk | hk | hk
    · have er : (if p.f0 = 5 then x else true) = true := if_neg (by omega)
      rw [er, if_pos hk, if_pos (decide_eq_true hk), if_pos b1]; rfl
    · have er : (if p.f0 = 5 then x else true) = x := if_pos hk
      rw [er, if_neg (by omega), if_neg (by simp; omega)]; rfl
    · have er : (if p.f0 = 5 then x else true) = true := if_neg (by omega)
      rw [er, if_neg (by omega), if_pos (decide_eq_true hk), if_pos b1]; rfl
  intro t
  induction t with
  | non =>
    intro _ pre post st f e hs
    refine (one pre (S82.mk 0 VZ) post f st (by rw [e]; simp [ser])).trans ?_
    rw [if_pos rfl, if_pos (by simp [ser] at hs ⊢; omega)]; rfl
  | one s =>
    intro _ pre post st f e hs
    refine (one pre (S82.mk 1 s) post f st (by rw [e]; simp [ser])).trans ?_
    rw [if_neg (by show ¬ ((1 : Int) = 0); decide), if_pos rfl, if_pos (by simp [ser] at hs ⊢; omega)]; rfl
  | cat a b iha ihb =>
    intro hok pre post st f e hs
    have hlen : (ser (.cat a b)).length = (ser a).length + (ser b).length + 1 := by simp only [ser, List.length_append, List.length_cons, List.length_nil]
    have h1 := iha hok.1 pre (ser b ++ S82.mk 2 VZ :: post) st (f + 1 + (ser b).length) (by rw [e]; simp [ser]) (by omega)
    have h2 := ihb hok.2 (pre ++ ser a) (S82.mk 2 VZ :: post) (st ++ [nul a]) (f + 1) (by rw [e]; simp [ser]) (by simp; omega)
    have h3 := two (pre ++ ser a ++ ser b) (S82.mk 2 VZ) post f st (nul a) (nul b) (by rw [e]; simp [ser]) (by omega) (.inl rfl)
    rw [hlen, show f + ((ser a).length + (ser b).length + 1) = f + 1 + (ser b).length + (ser a).length by omega]
    rw [List.length_append] at h2
    rw [List.append_assoc st] at h2
    rw [show (pre ++ ser a ++ ser b).length = pre.length + (ser a).length + (ser b).length by simp; omega] at h3
    rw [show pre.length + ((ser a).length + (ser b).length + 1) = pre.length + (ser a).length + (ser b).length + 1 by omega, h1, h2]
    refine h3.trans ?_
    rw [if_pos (by rfl)]; rfl
  | alt a b iha ihb =>
    intro hok pre post st f e hs
    have hlen : (ser (.alt a b)).length = (ser a).length + (ser b).length + 1 := by simp only [ser, List.length_append, List.length_cons, List.length_nil]
    have h1 := iha hok.1 pre (ser b ++ S82.mk 3 VZ :: post) st (f + 1 + (ser b).length) (by rw [e]; simp [ser]) (by omega)
    have h2 := ihb hok.2 (pre ++ ser a) (S82.mk 3 VZ :: post) (st ++ [nul a]) (f + 1) (by rw [e]; simp [ser]) (by simp; omega)
    have h3 := two (pre ++ ser a ++ ser b) (S82.mk 3 VZ) post f st (nul a) (nul b) (by rw [e]; simp [ser]) (by omega) (.inr rfl)
    rw [hlen, show f + ((ser a).length + (ser b).length + 1) = f + 1 + (ser b).length + (ser a).length by omega]
    rw [List.length_append] at h2
    rw [List.append_assoc st] at h2
    rw [show (pre ++ ser a ++ ser b).length = pre.length + (ser a).length + (ser b).length by simp; omega] at h3
    rw [show pre.length + ((ser a).length + (ser b).length + 1) = pre.length + (ser a).length + (ser b).length + 1 by omega, h1, h2]
    refine h3.trans ?_
    rw [if_neg (by show ¬ ((3 : Int) = 2); decide)]; rfl
  | un k a iha =>
    intro hok pre post st f e hs
    have hk : k = 4 ∨ k = 5 ∨ k = 6 := by have := hok.1; have := hok.2.1; omega
    have hlen : (ser (.un k a)).length = (ser a).length + 1 := by simp [ser]
    have h1 := iha hok.2.2 pre (S82.mk k VZ :: post) st (f + 1) (by rw [e]; simp [ser]) (by omega)
    have h3 := top (pre ++ ser a) (S82.mk k VZ) post f st (nul a) (by rw [e]; simp [ser]) (by omega) hk
    rw [hlen, show f + ((ser a).length + 1) = f + 1 + (ser a).length by omega]
    rw [show (pre ++ ser a).length = pre.length + (ser a).length by simp] at h3
    rw [show pre.length + ((ser a).length + 1) = pre.length + (ser a).length + 1 by omega, h1]
    exact h3
theorem empty_eq {t : Rx} (ht : ROK t) (hz : (ser t).length ≤ 100000) : deriv_Empty KK (ser t) = some (nul t) := by
  have := emp_scan (ser t) (by omega) t ht [] [] [] (KK - (ser t).length) (by simp) (by simp; omega)
  rw [show KK - (ser t).length + (ser t).length = KK by show 200000 - _ + _ = 200000; omega] at this
  unfold deriv_Empty
  refine this.trans ?_
  obtain ⟨f, hf⟩ : ∃ f, KK - (ser t).length = f + 1 := ⟨KK - (ser t).length - 1, by show 200000 - _ = 200000 - _ - 1 + 1; omega⟩
  rw [hf, deriv_Empty_l3.eq_2, if_neg (by simp)]
  unfold deriv_Empty_c0
  rw [List.nil_append, if_pos (by simp), if_pos ⟨by omega, by simp⟩]; rfl
end Go.Avl.T3
/- Regular expressions as trees: what is left behind a byte. -/
namespace Go.Avl.T3
open Go Go.RowKit Go.Proofs Go.Avl
set_option linter.all false
set_option maxRecDepth 10000

/-! What is left behind a byte. -/
def catL : Option Rx → Option Rx → Option Rx
  | some .non, some y => some y
  | some x, some .non => some x
  | some x, some y => some (.cat x y)
  | _, _ => none
noncomputable def altL : Option Rx → Option Rx → Option Rx
  | none, y => y
  | some x, none => some x
  | some x, some y => if ser x = ser y then some x else some (.alt x y)
noncomputable def dv (b : Nat) : Rx → Option Rx
  | .non => none
  | .one s => if tb s b = true then some .non else none
  | .cat x y => if nul x = true then altL (catL (dv b x) (some y)) (dv b y) else catL (dv b x) (some y)
  | .alt x y => altL (dv b x) (dv b y)
  | .un k x => if k = 6 then dv b x else catL (dv b x) (some (.un 4 x))
def enL : Option Rx → S62
  | none => S62.mk true []
  | some t => S62.mk false (ser t)
def sz : Option Rx → Nat
  | none => 0
  | some t => (ser t).length
def OKo : Option Rx → Prop
  | none => True
  | some t => ROK t
theorem ser_one {t : Rx} (h : (ser t).length = 1) : (lget (ser t) 0).f0 = 0 ↔ t = .non := by
  cases t with
  | non => exact ⟨fun _ => rfl, fun _ => rfl⟩
  | one s => exact ⟨fun e => by simp [ser, lget] at e, fun e => by cases e⟩
  | cat a b => have := ser_pos a; have := ser_pos b; simp only [ser, List.length_append, List.length_cons, List.length_nil] at h; omega
  | alt a b => have := ser_pos a; have := ser_pos b; simp only [ser, List.length_append, List.length_cons, List.length_nil] at h; omega
  | un k a => have := ser_pos a; simp only [ser, List.length_append, List.length_cons, List.length_nil] at h; omega
noncomputable instance : DecidableEq Rx := fun a b => Classical.propDecidable _
theorem catL_def (x y : Rx) : catL (some x) (some y) = if x = .non then some y else if y = .non then some x else some (.cat x y) := by
  cases x <;> cases y <;> simp [catL]
theorem join2_l (f : Nat) (k : Int) (a b : List S82) (h : a.length + b.length ≤ 1000000) : rex_Join_l1 KK k [a, b] (f + 1 + 1 + 1) [] 0 = some (a ++ b ++ [S82.mk k VZ]) := by
  have g : (([a, b] : List (List S82)).length : Int) = 2 := rfl
  rw [rex_Join_l1.eq_2, g, if_pos (by omega), if_pos (by omega), show lget [a, b] (0 : Int) = a from rfl, if_pos (by simp; omega), show w64 (0 + 1) = (1 : Int) from w6 (by omega) (by omega)]
  rw [rex_Join_l1.eq_2, g, if_pos (by omega), if_pos (by omega), show lget [a, b] (1 : Int) = b from rfl, if_pos (by simp; omega), show w64 (1 + 1) = (2 : Int) from w6 (by omega) (by omega)]
  rw [rex_Join_l1.eq_2, g, if_neg (by omega), rex_Join_c0, if_pos (by simp; omega), List.nil_append]; rfl
theorem join1_l (f : Nat) (k : Int) (a : List S82) (h : a.length ≤ 1000000) : rex_Join_l1 KK k [a] (f + 1 + 1) [] 0 = some (a ++ [S82.mk k VZ]) := by
  have g : (([a] : List (List S82)).length : Int) = 1 := rfl
  rw [rex_Join_l1.eq_2, g, if_pos (by omega), if_pos (by omega), show lget [a] (0 : Int) = a from rfl, if_pos (by simp; omega), show w64 (0 + 1) = (1 : Int) from w6 (by omega) (by omega)]
  rw [rex_Join_l1.eq_2, g, if_neg (by omega), rex_Join_c0, if_pos (by simp; omega), List.nil_append]; rfl
theorem join2 (k : Int) (hk : k = 2 ∨ k = 3) (a b : List S82) (h : a.length + b.length ≤ 1000000) : rex_Join KK k [a, b] = some (a ++ b ++ [S82.mk k VZ]) := by
  have ht : tk k = 2 := by rcases hk with rfl | rfl <;> rfl
  have g : (([a, b] : List (List S82)).length : Int) = 2 := rfl
  unfold rex_Join
  rw [takes_eq, Option.bind_some, ht, g, if_neg (by decide), Option.bind_some, if_neg (by decide)]
  exact join2_l 199997 k a b h
theorem join1 (k : Int) (hk : k = 4 ∨ k = 5 ∨ k = 6) (a : List S82) (h : a.length ≤ 1000000) : rex_Join KK k [a] = some (a ++ [S82.mk k VZ]) := by
  have ht : tk k = 1 := by rcases hk with rfl | rfl | rfl <;> rfl
  have g : (([a] : List (List S82)).length : Int) = 1 := rfl
  unfold rex_Join
  rw [takes_eq, Option.bind_some, ht, g, if_neg (by decide), Option.bind_some, if_neg (by decide)]
  exact join1_l 199998 k a h
end Go.Avl.T3
/- Regular expressions as trees: what is left behind a byte. -/
namespace Go.Avl.T3
open Go Go.RowKit Go.Proofs Go.Avl
set_option linter.all false
set_option maxRecDepth 10000
theorem cat_eq {x y : Option Rx} (hz : sz x + sz y ≤ 1000000) : deriv_cat KK (enL x) (enL y) = some (enL (catL x y)) := by
  unfold deriv_cat
  cases x with
  | none => cases y <;> rfl
  | some x =>
    cases y with
    | none => cases x <;> rfl
    | some y =>
      have hz' : (ser x).length + (ser y).length ≤ 1000000 := hz
      show (if (false : Bool) = true then some true else some (false : Bool)).bind _ = _
      rw [if_neg (by decide), Option.bind_some, if_neg (by decide), catL_def]
      have key : ∀ z : Rx, (if (((enL (some z)).f1).length : Int) = 1 then if 0 ≤ (0 : Int) ∧ (0 : Int) < (((enL (some z)).f1).length : Int) then some (decide ((lget ((enL (some z)).f1) (0 : Int)).f0 = 0)) else none else some false) = some (decide (z = .non)) := by
        intro z
        show (if ((ser z).length : Int) = 1 then if 0 ≤ (0 : Int) ∧ (0 : Int) < ((ser z).length : Int) then some (decide ((lget (ser z) (0 : Int)).f0 = 0)) else none else some false) = some (decide (z = .non))
        by_cases a : (ser z).length = 1
        · rw [if_pos (by omega), if_pos ⟨by omega, by omega⟩]
          congr 1
          rw [decide_eq_decide]; exact ser_one a
        · rw [if_neg (by omega), decide_eq_false (fun e => by subst e; exact a rfl)]
      rw [key x, Option.bind_some]
      by_cases a : x = .non
      · rw [if_pos (decide_eq_true a), if_pos a]
      · rw [if_neg (by simpa using a), if_neg a, key y, Option.bind_some]
        by_cases b : y = .non
        · rw [if_pos (decide_eq_true b), if_pos b]
        · rw [if_neg (by simpa using b), if_neg b, show (enL (some x)).f1 = ser x from rfl, show (enL (some y)).f1 = ser y from rfl, join2 2 (.inl rfl) _ _ hz']; rfl
theorem same_l2 (l m : List S82) (hl : l.length = m.length) (hz : l.length ≤ 190000) : ∀ (k i fuel : Nat), i + k = l.length → k < fuel → slices_Equal_api_Regex_api_Piece__l1 KK l m fuel (i : Int) = some (decide (l.drop i = m.drop i))
  | 0, i, f + 1, hi, _ => by
    rw [slices_Equal_api_Regex_api_Piece__l1.eq_2, if_neg (by omega), List.drop_of_length_le (by omega), List.drop_of_length_le (by omega)]; rfl
  | k + 1, i, f + 1, hi, hf => by
    have h1 : i < l.length := by omega
    have h2 : i < m.length := by omega
    have ih := same_l2 l m hl hz k (i + 1) f (by omega) (by omega)
    rw [slices_Equal_api_Regex_api_Piece__l1.eq_2, if_pos (by omega), if_pos ⟨by omega, by omega⟩, if_pos ⟨by omega, by omega⟩, pget l i h1, pget m i h2, w6 (by omega) (by omega), List.drop_eq_getElem_cons h1, List.drop_eq_getElem_cons h2]
    by_cases e : l[i] = m[i]
    · rw [if_neg (by simp [e])]
      have : decide (l[i] :: l.drop (i + 1) = m[i] :: m.drop (i + 1)) = decide (l.drop (i + 1) = m.drop (i + 1)) := by rw [e, decide_eq_decide]; exact ⟨fun k => (List.cons.inj k).2, fun k => by rw [k]⟩
      rw [this]; exact_mod_cast ih
    · rw [if_pos (by simp [e]), decide_eq_false (fun k => e (List.cons.inj k).1)]
theorem rsame_eq (l m : List S82) (hz : l.length ≤ 190000) : rex_Same KK l m = some (decide (l = m)) := by
  unfold rex_Same slices_Equal_api_Regex_api_Piece_
  by_cases a : (l.length : Int) = (m.length : Int)
  · rw [if_neg (by simpa using a)]
    have := same_l2 l m (by omega) hz l.length 0 KK (by omega) (by show _ < 200000; omega)
    rw [List.drop_zero, List.drop_zero, Int.natCast_zero] at this
    rw [this]; rfl
  · rw [if_pos a, decide_eq_false (fun e => a (by rw [e]))]; rfl
theorem alt_eq {x y : Option Rx} (hz : sz x ≤ 190000 ∧ sz y ≤ 190000) : deriv_alt KK (enL x) (enL y) = some (enL (altL x y)) := by
  unfold deriv_alt
  cases x with
  | none => rfl
  | some x =>
    cases y with
    | none => rfl
    | some y =>
      have h1 : (ser x).length ≤ 190000 := hz.1
      have h2 : (ser y).length ≤ 190000 := hz.2
      have fx : ¬ (enL (some x)).f0 = true := Bool.noConfusion
      have fy : ¬ (enL (some y)).f0 = true := Bool.noConfusion
      show _ = some (enL (if ser x = ser y then some x else some (.alt x y)))
      rw [if_neg fx, if_neg fy, show (enL (some x)).f1 = ser x from rfl, show (enL (some y)).f1 = ser y from rfl, rsame_eq _ _ h1, Option.bind_some, Option.bind_some]
      by_cases a : ser x = ser y
      · rw [if_pos (decide_eq_true a), if_pos a]
      · rw [if_neg (by simpa using a), if_neg a, join2 3 (.inr rfl) _ _ (by omega)]; rfl
theorem catL_sz (x y : Option Rx) : sz (catL x y) ≤ sz x + sz y + 1 := by
  cases x with
  | none => cases y <;> simp [catL, sz]
  | some x =>
    cases y with
    | none => cases x <;> simp [catL, sz]
    | some y =>
      rw [catL_def]
      split
      · simp only [sz]; omega
      · split
        · simp only [sz]; omega
        · simp only [sz, ser, List.length_append, List.length_cons, List.length_nil]; omega
theorem altL_sz (x y : Option Rx) : sz (altL x y) ≤ sz x + sz y + 1 := by
  cases x with
  | none => simp only [altL]; omega
  | some x =>
    cases y with
    | none => simp only [altL]; omega
    | some y =>
      simp only [altL]
      split
      · simp only [sz]; omega
      · simp only [sz, ser, List.length_append, List.length_cons, List.length_nil]; omega
theorem catL_ok {x y : Option Rx} (hx : OKo x) (hy : OKo y) : OKo (catL x y) := by
  cases x with
  | none => cases y <;> simp [catL, OKo]
  | some x =>
    cases y with
    | none => cases x <;> simp [catL, OKo]
    | some y =>
      rw [catL_def]
      split
      · exact hy
      · split
        · exact hx
        · exact ⟨hx, hy⟩
theorem altL_ok {x y : Option Rx} (hx : OKo x) (hy : OKo y) : OKo (altL x y) := by
  cases x with
  | none => exact hy
  | some x =>
    cases y with
    | none => exact hx
    | some y =>
      simp only [altL]
      split
      · exact hx
      · exact ⟨hx, hy⟩
theorem dv_ok (b : Nat) : ∀ t, ROK t → OKo (dv b t)
  | .non, _ => trivial
  | .one s, _ => by unfold dv; split <;> trivial
  | .cat x y, h => by
    unfold dv
    split
    · exact altL_ok (catL_ok (dv_ok b x h.1) h.2) (dv_ok b y h.2)
    · exact catL_ok (dv_ok b x h.1) h.2
  | .alt x y, h => altL_ok (dv_ok b x h.1) (dv_ok b y h.2)
  | .un k x, h => by
    unfold dv
    split
    · exact dv_ok b x h.2.2
    · exact catL_ok (dv_ok b x h.2.2) ⟨by omega, by omega, h.2.2⟩
theorem dv_sz (b : Nat) : ∀ t, 2 * sz (dv b t) ≤ (ser t).length * (ser t).length + 4 * (ser t).length
  | .non => by simp [dv, sz]
  | .one s => by unfold dv; split <;> simp [sz, ser]
  | .cat x y => by
    have hx := dv_sz b x
    have hy := dv_sz b y
    have px := ser_pos x
    have py := ser_pos y
    have hlen : (ser (.cat x y)).length = (ser x).length + (ser y).length + 1 := by simp only [ser, List.length_append, List.length_cons, List.length_nil]
    have c1 := catL_sz (dv b x) (some y)
    have a1 := altL_sz (catL (dv b x) (some y)) (dv b y)
    have sy : sz (some y) = (ser y).length := rfl
    rw [hlen]
    have e : ((ser x).length + (ser y).length + 1) * ((ser x).length + (ser y).length + 1) = (ser x).length * (ser x).length + (ser y).length * (ser y).length + 2 * ((ser x).length * (ser y).length) + 2 * (ser x).length + 2 * (ser y).length + 1 := by
      simp only [Nat.add_mul, Nat.mul_add]; have := Nat.mul_comm (ser x).length (ser y).length; omega
    rw [e]
    have sy1 : sz (some y) = (ser y).length := rfl
    have : (ser y).length ≤ (ser x).length * (ser y).length := Nat.le_mul_of_pos_left _ px
    unfold dv
    split <;> omega
  | .alt x y => by
    have hx := dv_sz b x
    have hy := dv_sz b y
    have hlen : (ser (.alt x y)).length = (ser x).length + (ser y).length + 1 := by simp only [ser, List.length_append, List.length_cons, List.length_nil]
    have a1 := altL_sz (dv b x) (dv b y)
    rw [hlen]
    have e : ((ser x).length + (ser y).length + 1) * ((ser x).length + (ser y).length + 1) = (ser x).length * (ser x).length + (ser y).length * (ser y).length + 2 * ((ser x).length * (ser y).length) + 2 * (ser x).length + 2 * (ser y).length + 1 := by
      simp only [Nat.add_mul, Nat.mul_add]; have := Nat.mul_comm (ser x).length (ser y).length; omega
    rw [e]
    unfold dv
    omega
  | .un k x => by
    have hx := dv_sz b x
    have px := ser_pos x
    have hlen : (ser (.un k x)).length = (ser x).length + 1 := by simp [ser]
    have c1 := catL_sz (dv b x) (some (.un 4 x))
    have sy : sz (some (.un 4 x)) = (ser x).length + 1 := by simp [sz, ser]
    rw [hlen]
    have e : ((ser x).length + 1) * ((ser x).length + 1) = (ser x).length * (ser x).length + 2 * (ser x).length + 1 := by
      simp only [Nat.add_mul, Nat.mul_add]; omega
    rw [e]
    unfold dv
    split <;> omega
theorem dv_sz400 (b : Nat) {t : Rx} (h : (ser t).length ≤ 400) : sz (dv b t) ≤ 80800 := by
  have := dv_sz b t
  have := Nat.mul_le_mul h h
  omega
end Go.Avl.T3
/- Regular expressions as trees: what is left behind a byte. -/
namespace Go.Avl.T3
open Go Go.RowKit Go.Proofs Go.Avl
set_option linter.all false
set_option maxRecDepth 10000
theorem derive_r {b : Nat} (hb : b < 256) : ∀ (j : Nat) (t : Rx), ROK t → (ser t).length ≤ 400 → (ser t).length ≤ j → deriv_derive_r KK j (ser t) (b : Int) = some (enL (dv b t))
  | 0, t, _, _, h => by have := ser_pos t; omega
  | j + 1, t, ht, hz, hj => by
    have hp := ser_pos t
    rw [deriv_derive_r.eq_2, last_ix (by omega), if_pos ⟨by omega, by omega⟩, last_get, parts_eq ht (by omega), Option.bind_some]
    have sq : ∀ x : Rx, (ser x).length ≤ 400 → sz (dv b x) ≤ 80800 := fun x hx => dv_sz400 b hx
    cases t with
    | non => rfl
    | one s =>
      have e0 : (S82.mk (kind (.one s)) (setOf (.one s))).f0 = 1 := rfl
      have e1 : (S82.mk (kind (.one s)) (setOf (.one s))).f1 = s := rfl
      rw [e0, e1]
      rw [if_pos rfl, has_eq ht.1 hb, Option.bind_some, dv]
      by_cases a : tb s b = true
      · rw [if_pos a, if_pos a]; rfl
      · rw [if_neg a, if_neg a]; rfl
    | cat x y =>
      have hlen : (ser (.cat x y)).length = (ser x).length + (ser y).length + 1 := by simp only [ser, List.length_append, List.length_cons, List.length_nil]
      have px := ser_pos x
      have py := ser_pos y
      have h1 := derive_r hb j x ht.1 (by omega) (by omega)
      have h2 := derive_r hb j y ht.2 (by omega) (by omega)
      have s1 := sq x (by omega)
      have s2 := sq y (by omega)
      have sy : sz (some y) = (ser y).length := rfl
      have c1 := catL_sz (dv b x) (some y)
      have e0 : (S82.mk (kind (.cat x y)) (setOf (.cat x y))).f0 = 2 := rfl
      have g : ((parts (.cat x y)).length : Int) = 2 := rfl
      have g0 : lget (parts (.cat x y)) (0 : Int) = ser x := rfl
      have g1 : lget (parts (.cat x y)) (1 : Int) = ser y := rfl
      rw [e0, g]
      rw [if_neg (by decide), if_pos rfl, if_pos (by decide), g0, h1, Option.bind_some, if_pos (by decide), g1, show S62.mk false (ser y) = enL (some y) from rfl, cat_eq (by omega), Option.bind_some, if_pos (by decide), empty_eq ht.1 (by omega), Option.bind_some, dv]
      by_cases a : nul x = true
      · rw [if_pos a, if_pos a, if_pos (by decide), h2, Option.bind_some, alt_eq ⟨by omega, by omega⟩]; rfl
      · rw [if_neg a, if_neg a]
    | alt x y =>
      have hlen : (ser (.alt x y)).length = (ser x).length + (ser y).length + 1 := by simp only [ser, List.length_append, List.length_cons, List.length_nil]
      have px := ser_pos x
      have py := ser_pos y
      have h1 := derive_r hb j x ht.1 (by omega) (by omega)
      have h2 := derive_r hb j y ht.2 (by omega) (by omega)
      have s1 := sq x (by omega)
      have s2 := sq y (by omega)
      have e0 : (S82.mk (kind (.alt x y)) (setOf (.alt x y))).f0 = 3 := rfl
      have g : ((parts (.alt x y)).length : Int) = 2 := rfl
      have g0 : lget (parts (.alt x y)) (0 : Int) = ser x := rfl
      have g1 : lget (parts (.alt x y)) (1 : Int) = ser y := rfl
      rw [e0, g]
      rw [if_neg (by decide), if_neg (by decide), if_pos rfl, if_pos (by decide), g0, h1, Option.bind_some, if_pos (by decide), g1, h2, Option.bind_some, alt_eq ⟨by omega, by omega⟩, dv]; rfl
    | un k x =>
      have hk : k = 4 ∨ k = 5 ∨ k = 6 := by have := ht.1; have := ht.2.1; omega
      have hlen : (ser (.un k x)).length = (ser x).length + 1 := by simp [ser]
      have px := ser_pos x
      have h1 := derive_r hb j x ht.2.2 (by omega) (by omega)
      have s1 := sq x (by omega)
      have sy : sz (some (.un 4 x)) = (ser x).length + 1 := by simp [sz, ser]
      have e0 : (S82.mk (kind (.un k x)) (setOf (.un k x))).f0 = k := rfl
      have g : ((parts (.un k x)).length : Int) = 1 := rfl
      have g0 : lget (parts (.un k x)) (0 : Int) = ser x := rfl
      rw [e0, g]
      rw [if_neg (by omega), if_neg (by omega), if_neg (by omega), dv]
      by_cases k6 : k = 6
      · rw [if_pos k6, if_pos k6, if_pos (by decide), g0, h1]; rfl
      · rw [if_neg k6, if_neg k6]
        unfold deriv_derive_c1
        have gg : 0 ≤ (0 : Int) ∧ (0 : Int) < ((parts (.un k x)).length : Int) := by rw [g]; decide
        have fin : (if 0 ≤ (0 : Int) ∧ (0 : Int) < ((parts (.un k x)).length : Int) then (deriv_derive_r KK j (lget (parts (.un k x)) (0 : Int)) (b : Int)).bind fun t35 => if 0 ≤ (0 : Int) ∧ (0 : Int) < ((parts (.un k x)).length : Int) then (rex_Join KK (4 : Int) [(lget (parts (.un k x)) (0 : Int))]).bind fun t38 => (deriv_cat KK t35 (S62.mk false t38)).bind fun t39 => some t39 else none else none) = some (enL (catL (dv b x) (some (.un 4 x)))) := by
          rw [if_pos gg, g0, h1, Option.bind_some, if_pos gg, join1 4 (.inl rfl) _ (by omega), Option.bind_some, show S62.mk false (ser x ++ [S82.mk 4 VZ]) = enL (some (.un 4 x)) from rfl, cat_eq (by omega)]; rfl
        by_cases k4 : k = 4
        · rw [if_pos k4, if_pos (decide_eq_true k4)]; exact fin
        · rw [if_neg k4, if_pos (decide_eq_true (by omega))]; exact fin
theorem derive_eq {b : Nat} (hb : b < 256) {t : Rx} (ht : ROK t) (hz : (ser t).length ≤ 400) : deriv_derive KK (ser t) (b : Int) = some (enL (dv b t)) := derive_r hb KK t ht hz (by show _ ≤ 200000; omega)
end Go.Avl.T3
/- Regular expressions as trees: the words; derivatives and words. -/
namespace Go.Avl.T3
open Go Go.RowKit Go.Proofs Go.Avl
set_option linter.all false
set_option maxRecDepth 10000

inductive SL (P : List Nat → Prop) : List Nat → Prop where
  | nil : SL P []
  | step (x y : List Nat) : x ≠ [] → P x → SL P y → SL P (x ++ y)
theorem SL.inv {P : List Nat → Prop} {w : List Nat} (h : SL P w) : w = [] ∨ ∃ x y, x ≠ [] ∧ P x ∧ SL P y ∧ w = x ++ y := by
  cases h with
  | nil => exact .inl rfl
  | step x y a b c => exact .inr ⟨x, y, a, b, c, rfl⟩
theorem SL.app {P : List Nat → Prop} {x y : List Nat} (h : SL P x) (hy : P y) : SL P (x ++ y) := by
  induction h with
  | nil =>
    by_cases e : y = []
    · rw [e]; exact .nil
    · have := SL.step y [] e hy .nil
      rw [List.append_nil] at this; exact this
  | step u v a b c ih => rw [List.append_assoc]; exact .step u _ a b ih
theorem SL.cons_iff {P : List Nat → Prop} {b : Nat} {v : List Nat} : SL P (b :: v) ↔ ∃ x y, v = x ++ y ∧ P (b :: x) ∧ SL P y := by
  constructor
  · intro h
    rcases h.inv with e | ⟨x, y, h1, h2, h3, e⟩
    · cases e
    · cases x with
      | nil => exact absurd rfl h1
      | cons c x =>
        obtain ⟨rfl, e'⟩ := List.cons.inj e
        exact ⟨x, y, e', h2, h3⟩
  · rintro ⟨x, y, rfl, h2, h3⟩
    exact SL.step (b :: x) y (by simp) h2 h3
def Lx : Rx → List Nat → Prop
  | .non, v => v = []
  | .one s, v => ∃ b, v = [b] ∧ tb s b = true
  | .cat a b, v => ∃ x y, v = x ++ y ∧ Lx a x ∧ Lx b y
  | .alt a b, v => Lx a v ∨ Lx b v
  | .un k a, v => if k = 6 then v = [] ∨ Lx a v else if k = 4 then SL (Lx a) v else ∃ x y, v = x ++ y ∧ Lx a x ∧ SL (Lx a) y
theorem nul_iff : ∀ {t : Rx}, ROK t → (nul t = true ↔ Lx t [])
  | .non, _ => by simp [nul, Lx]
  | .one s, _ => by simp [nul, Lx]
  | .cat a b, h => by
    have ha := nul_iff h.1
    have hb := nul_iff h.2
    unfold nul Lx
    rw [Bool.and_eq_true, ha, hb]
    constructor
    · rintro ⟨p, q⟩; exact ⟨[], [], rfl, p, q⟩
    · rintro ⟨x, y, e, p, q⟩
      obtain ⟨rfl, rfl⟩ := List.append_eq_nil_iff.1 e.symm
      exact ⟨p, q⟩
  | .alt a b, h => by unfold nul Lx; rw [Bool.or_eq_true, nul_iff h.1, nul_iff h.2]
  | .un k a, h => by
    have ha := nul_iff h.2.2
    have h1 := h.1
    have h2 := h.2.1
    unfold nul Lx
    by_cases k6 : k = 6
    · rw [if_neg (by omega), if_pos k6]; simp
    · rw [if_neg k6]
      by_cases k4 : k = 4
      · rw [if_neg (by omega), if_pos k4]; exact ⟨fun _ => .nil, fun _ => rfl⟩
      · rw [if_pos (by omega), if_neg k4, ha]
        constructor
        · intro p; exact ⟨[], [], rfl, p, .nil⟩
        · rintro ⟨x, y, e, p, q⟩
          obtain ⟨rfl, rfl⟩ := List.append_eq_nil_iff.1 e.symm
          exact p
theorem ser_inj : ∀ (t u : Rx), ROK t → ROK u → (ser t).length ≤ 100000 → ser t = ser u → t = u
  | t, u, ht, hu, hz, e => by
    have p1 := parts_eq ht hz
    have p2 := parts_eq hu (by rw [← e]; exact hz)
    rw [← e, p1] at p2
    have hp : parts t = parts u := Option.some.inj p2
    have g1 := last_get t
    have g2 := last_get u
    rw [← e, g1] at g2
    have hk : kind t = kind u := (S82.mk.inj g2).1
    have hs : setOf t = setOf u := (S82.mk.inj g2).2
    cases t with
    | non =>
      cases u with
      | non => rfl
      | one s => exact absurd hk (by show ¬ ((0 : Int) = 1); decide)
      | cat a b => exact absurd hk (by show ¬ ((0 : Int) = 2); decide)
      | alt a b => exact absurd hk (by show ¬ ((0 : Int) = 3); decide)
      | un k a => have := hu.1; exact absurd hk (by show ¬ ((0 : Int) = k); omega)
    | one s =>
      cases u with
      | non => exact absurd hk (by show ¬ ((1 : Int) = 0); decide)
      | one s' => rw [show s = s' from hs]
      | cat a b => exact absurd hk (by show ¬ ((1 : Int) = 2); decide)
      | alt a b => exact absurd hk (by show ¬ ((1 : Int) = 3); decide)
      | un k a => have := hu.1; exact absurd hk (by show ¬ ((1 : Int) = k); omega)
    | cat a b =>
      cases u with
      | non => exact absurd hk (by show ¬ ((2 : Int) = 0); decide)
      | one s => exact absurd hk (by show ¬ ((2 : Int) = 1); decide)
      | cat a' b' =>
        have hlen : (ser (.cat a b)).length = (ser a).length + (ser b).length + 1 := by simp only [ser, List.length_append, List.length_cons, List.length_nil]
        obtain ⟨e1, e2⟩ := List.cons.inj (show [ser a, ser b] = [ser a', ser b'] from hp)
        have e2 := (List.cons.inj e2).1
        rw [ser_inj a a' ht.1 hu.1 (by omega) e1, ser_inj b b' ht.2 hu.2 (by omega) e2]
      | alt a b => exact absurd hk (by show ¬ ((2 : Int) = 3); decide)
      | un k a => have := hu.1; exact absurd hk (by show ¬ ((2 : Int) = k); omega)
    | alt a b =>
      cases u with
      | non => exact absurd hk (by show ¬ ((3 : Int) = 0); decide)
      | one s => exact absurd hk (by show ¬ ((3 : Int) = 1); decide)
      | cat a b => exact absurd hk (by show ¬ ((3 : Int) = 2); decide)
      | alt a' b' =>
        have hlen : (ser (.alt a b)).length = (ser a).length + (ser b).length + 1 := by simp only [ser, List.length_append, List.length_cons, List.length_nil]
        obtain ⟨e1, e2⟩ := List.cons.inj (show [ser a, ser b] = [ser a', ser b'] from hp)
        have e2 := (List.cons.inj e2).1
        rw [ser_inj a a' ht.1 hu.1 (by omega) e1, ser_inj b b' ht.2 hu.2 (by omega) e2]
      | un k a => have := hu.1; exact absurd hk (by show ¬ ((3 : Int) = k); omega)
    | un k a =>
      have h1 := ht.1
      cases u with
      | non => exact absurd hk (by show ¬ (k = (0 : Int)); omega)
      | one s => exact absurd hk (by show ¬ (k = (1 : Int)); omega)
      | cat a b => exact absurd hk (by show ¬ (k = (2 : Int)); omega)
      | alt a b => exact absurd hk (by show ¬ (k = (3 : Int)); omega)
      | un k' a' =>
        have hlen : (ser (.un k a)).length = (ser a).length + 1 := by simp [ser]
        obtain ⟨e1, e2⟩ := List.cons.inj (show [ser a] = [ser a'] from hp)
        rw [ser_inj a a' ht.2.2 hu.2.2 (by omega) e1, show k = k' from hk]
def Lo : Option Rx → List Nat → Prop
  | none, _ => False
  | some t, v => Lx t v
theorem Lo_cat (x y : Option Rx) (v : List Nat) : Lo (catL x y) v ↔ ∃ a c, v = a ++ c ∧ Lo x a ∧ Lo y c := by
  cases x with
  | none => cases y <;> simp [catL, Lo]
  | some x =>
    cases y with
    | none => cases x <;> simp [catL, Lo]
    | some y =>
      rw [catL_def]
      split
      · next h =>
        subst h
        show Lx y v ↔ ∃ a c, v = a ++ c ∧ a = [] ∧ Lx y c
        constructor
        · intro h; exact ⟨[], v, rfl, rfl, h⟩
        · rintro ⟨a, c, e, rfl, h⟩; rw [e]; exact h
      · split
        · next h =>
          subst h
          show Lx x v ↔ ∃ a c, v = a ++ c ∧ Lx x a ∧ c = []
          constructor
          · intro h; exact ⟨v, [], by simp, h, rfl⟩
          · rintro ⟨a, c, e, h, rfl⟩; rw [e, List.append_nil]; exact h
        · exact Iff.rfl
theorem Lo_alt {x y : Option Rx} (hx : OKo x) (hy : OKo y) (hz : sz x ≤ 100000) (v : List Nat) : Lo (altL x y) v ↔ Lo x v ∨ Lo y v := by
  cases x with
  | none => simp [altL, Lo]
  | some x =>
    cases y with
    | none => simp [altL, Lo]
    | some y =>
      show Lo (if ser x = ser y then some x else some (.alt x y)) v ↔ _
      split
      · next h =>
        rw [ser_inj x y hx hy hz h]
        exact ⟨.inl, fun h => h.elim id id⟩
      · exact Iff.rfl
theorem dv_L (b : Nat) : ∀ (t : Rx), ROK t → (ser t).length ≤ 400 → ∀ v, Lo (dv b t) v ↔ Lx t (b :: v)
  | .non, _, _, v => by simp [dv, Lo, Lx]
  | .one s, _, _, v => by
    unfold dv
    split
    · next h =>
      show v = [] ↔ ∃ c, b :: v = [c] ∧ tb s c = true
      constructor
      · rintro rfl; exact ⟨b, rfl, h⟩
      · rintro ⟨c, e, _⟩; exact (List.cons.inj e).2
    · next h =>
      show False ↔ ∃ c, b :: v = [c] ∧ tb s c = true
      constructor
      · exact False.elim
      · rintro ⟨c, e, hc⟩; exact h (by rw [(List.cons.inj e).1]; exact hc)
  | .cat x y, h, hz, v => by
    have hlen : (ser (.cat x y)).length = (ser x).length + (ser y).length + 1 := by simp only [ser, List.length_append, List.length_cons, List.length_nil]
    have hx := dv_L b x h.1 (by omega)
    have hy := dv_L b y h.2 (by omega)
    have hc : Lo (catL (dv b x) (some y)) v ↔ ∃ a c, v = a ++ c ∧ Lx x (b :: a) ∧ Lx y c := by
      rw [Lo_cat]
      constructor
      · rintro ⟨a, c, e, p, q⟩; exact ⟨a, c, e, (hx a).1 p, q⟩
      · rintro ⟨a, c, e, p, q⟩; exact ⟨a, c, e, (hx a).2 p, q⟩
    have hcat : Lx (.cat x y) (b :: v) ↔ (∃ a c, v = a ++ c ∧ Lx x (b :: a) ∧ Lx y c) ∨ (nul x = true ∧ Lx y (b :: v)) := by
      show (∃ p q, b :: v = p ++ q ∧ Lx x p ∧ Lx y q) ↔ _
      rw [nul_iff h.1]
      constructor
      · rintro ⟨p, q, e, hp, hq⟩
        cases p with
        | nil => right; exact ⟨hp, by rw [e]; exact hq⟩
        | cons d p =>
          obtain ⟨rfl, e'⟩ := List.cons.inj e
          left; exact ⟨p, q, e', hp, hq⟩
      · rintro (⟨a, c, rfl, p, q⟩ | ⟨p, q⟩)
        · exact ⟨b :: a, c, rfl, p, q⟩
        · exact ⟨[], b :: v, rfl, p, q⟩
    have s1 := dv_sz400 b (t := x) (by omega)
    have s2 := catL_sz (dv b x) (some y)
    have s3 : sz (some y) = (ser y).length := rfl
    rw [hcat]
    unfold dv
    split
    · next hn => rw [Lo_alt (catL_ok (dv_ok b x h.1) (show OKo (some y) from h.2)) (dv_ok b y h.2) (by omega), hc, hy]; simp [hn]
    · next hn => rw [hc]; simp [hn]
  | .alt x y, h, hz, v => by
    have hlen : (ser (.alt x y)).length = (ser x).length + (ser y).length + 1 := by simp only [ser, List.length_append, List.length_cons, List.length_nil]
    have s1 := dv_sz400 b (t := x) (by omega)
    unfold dv
    rw [Lo_alt (dv_ok b x h.1) (dv_ok b y h.2) (by omega), dv_L b x h.1 (by omega), dv_L b y h.2 (by omega)]; exact Iff.rfl
  | .un k x, h, hz, v => by
    have hlen : (ser (.un k x)).length = (ser x).length + 1 := by simp [ser]
    have hx := dv_L b x h.2.2 (by omega)
    have hc : Lo (catL (dv b x) (some (.un 4 x))) v ↔ ∃ a c, v = a ++ c ∧ Lx x (b :: a) ∧ SL (Lx x) c := by
      rw [Lo_cat]
      have : ∀ c, Lo (some (.un 4 x)) c ↔ SL (Lx x) c := by
        intro c
        show Lx (.un 4 x) c ↔ _
        unfold Lx
        rw [if_neg (by decide), if_pos rfl]
      constructor
      · rintro ⟨a, c, e, p, q⟩; exact ⟨a, c, e, (hx a).1 p, (this c).1 q⟩
      · rintro ⟨a, c, e, p, q⟩; exact ⟨a, c, e, (hx a).2 p, (this c).2 q⟩
    have h1 := h.1
    have h2 := h.2.1
    unfold dv Lx
    by_cases k6 : k = 6
    · rw [if_pos k6, if_pos k6, hx]; simp
    · rw [if_neg k6, if_neg k6, hc]
      by_cases k4 : k = 4
      · rw [if_pos k4, SL.cons_iff]
      · rw [if_neg k4]
        constructor
        · rintro ⟨a, c, rfl, p, q⟩; exact ⟨b :: a, c, rfl, p, q⟩
        · rintro ⟨p, q, e, hp, hq⟩
          cases p with
          | nil =>
            have : q = b :: v := by rw [e]; rfl
            rw [this, SL.cons_iff] at hq
            exact hq
          | cons d p =>
            obtain ⟨rfl, e'⟩ := List.cons.inj e
            exact ⟨p, q, e', hp, hq⟩
end Go.Avl.T3
/- Ported: texts between quotes. -/
namespace Go.Avl.T3
open Go Go.RowKit Go.Proofs Go.Avl
set_option linter.all false
set_option maxRecDepth 10000

theorem lget_lt {α : Type} [Inhabited α] (l : List α) (i : Nat) (h : i < l.length) : lget l (i : Int) = l[i] := by simp [lget, List.getD, List.getElem?_eq_getElem h]
theorem lset_len {α : Type} (l : List α) (i : Int) (x : α) : (lset l i x).length = l.length := by simp [lset]
/-- How many states. -/
def cnt (x : List Bool) : Nat := x.count true
theorem cnt_le (x : List Bool) : cnt x ≤ x.length := List.count_le_length
theorem lget_lsetB (l : List Bool) (i q : Int) (b : Bool) (h0 : 0 ≤ i) (h1 : i < (l.length : Int)) (hq : 0 ≤ q) : lget (lset l i b) q = if q = i then b else lget l q := by
  unfold lget lset
  rw [List.getD, List.getD, List.getElem?_set]
  by_cases e : i.toNat = q.toNat
  · rw [if_pos e, if_pos (by omega), if_pos (by omega)]; rfl
  · rw [if_neg e, if_neg (by omega)]
theorem lget_repB (N : Nat) (q : Int) : lget (List.replicate N false) q = false := by
  unfold lget
  rw [List.getD, List.getElem?_replicate]
  split <;> rfl
theorem lget_iff (x : List Bool) (q : Int) : lget x q = true ↔ x[q.toNat]? = some true := by
  unfold lget
  rw [List.getD]
  cases x[q.toNat]? with
  | none => simp
  | some b => cases b <;> simp
theorem le_cnt : ∀ (x y : List Bool), x.length = y.length → (∀ j : Nat, x[j]? = some true → y[j]? = some true) → x = y ∨ cnt x < cnt y
  | [], [], _, _ => .inl rfl
  | a :: x, b :: y, hl, h => by
    have ih := le_cnt x y (by simpa using hl) (fun j hj => by have := h (j + 1) (by simpa using hj); simpa using this)
    have h0 : a = true → b = true := fun e => by have := h 0 (by simp [e]); simpa using this
    simp only [cnt, List.count_cons] at ih ⊢
    rcases ih with rfl | ih
    · cases a <;> cases b <;> simp at h0 ⊢
    · right
      cases a <;> cases b <;> simp at h0 ⊢ <;> omega
/-- One row within another one. -/
def LE (x y : List Bool) : Prop := ∀ q : Int, 0 ≤ q → lget x q = true → lget y q = true
theorem LE.cnt {x y : List Bool} (h : LE x y) (hl : x.length = y.length) : x = y ∨ cnt x < cnt y :=
  le_cnt x y hl fun j hj => by
    have := h (j : Int) (by omega) ((lget_iff _ _).2 (by simpa using hj))
    have := (lget_iff _ _).1 this
    simpa using this
theorem LE.refl (x : List Bool) : LE x x := fun _ _ h => h
theorem LE.trans {x y z : List Bool} (h : LE x y) (k : LE y z) : LE x z := fun q h0 h1 => k q h0 (h q h0 h1)
end Go.Avl.T3
/- Regular expressions over a text: where matches end; the plain part. -/
namespace Go.Avl.T3
open Go Go.RowKit Go.Proofs Go.Avl
set_option linter.all false
set_option maxRecDepth 10000

def W (s : ByteArray) : List Nat := s.data.toList.map UInt8.toNat
theorem W_len (s : ByteArray) : (W s).length = s.size := by simp [W]
theorem W_get (s : ByteArray) (i : Nat) (h : i < (W s).length) : byteAt s (i : Int) = ((W s)[i] : Int) := by
  have hs : i < s.size := by rw [← W_len]; exact h
  unfold byteAt
  rw [dif_pos (by rw [Int.toNat_natCast]; exact hs)]
  simp [W, ByteArray.getElem_eq_getElem_data]
theorem W_app (a b : ByteArray) : W (a ++ b) = W a ++ W b := by simp [W]
theorem W_lt (s : ByteArray) (i : Nat) (h : i < (W s).length) : (W s)[i] < 256 := by
  simp only [W, List.getElem_map]
  exact UInt8.toNat_lt _
theorem W_take (s : ByteArray) (n : Nat) (h : n ≤ s.size) : W (s.extract 0 n) = (W s).take n := by
  unfold W
  rw [ByteArray.data_extract]
  simp [List.map_take]
def sl (w : List Nat) (i j : Nat) : List Nat := (w.drop i).take (j - i)
theorem sl_self (w : List Nat) (i : Nat) : sl w i i = [] := by simp [sl]
theorem sl_all (w : List Nat) : sl w 0 w.length = w := by simp [sl]
theorem sl_len {w : List Nat} {i j : Nat} (h : i ≤ j) (hj : j ≤ w.length) : (sl w i j).length = j - i := by simp [sl]; omega
theorem sl_app {w : List Nat} {i m j : Nat} (h1 : i ≤ m) (h2 : m ≤ j) : sl w i m ++ sl w m j = sl w i j := by
  unfold sl
  rw [show j - i = (m - i) + (j - m) by omega, List.take_add, List.drop_drop, show i + (m - i) = m by omega]
theorem sl_split {w : List Nat} {i j : Nat} (h : i ≤ j) (hj : j ≤ w.length) {x y : List Nat} (e : sl w i j = x ++ y) : ∃ m, i ≤ m ∧ m ≤ j ∧ sl w i m = x ∧ sl w m j = y := by
  have hl := sl_len h hj
  rw [e, List.length_append] at hl
  refine ⟨i + x.length, by omega, by omega, ?_, ?_⟩
  · have : (sl w i j).take x.length = x := by rw [e]; exact List.take_left ..
    unfold sl at this ⊢
    rw [List.take_take] at this
    rw [show i + x.length - i = min x.length (j - i) by omega]; exact this
  · have : (sl w i j).drop x.length = y := by rw [e]; exact List.drop_left ..
    unfold sl at this ⊢
    rw [List.drop_take, List.drop_drop] at this
    rw [show j - (i + x.length) = j - i - x.length by omega]; exact this
theorem sl_one {w : List Nat} {i : Nat} (h : i < w.length) : sl w i (i + 1) = [w[i]] := by
  unfold sl
  rw [show i + 1 - i = 1 by omega, List.drop_eq_getElem_cons h]; rfl
/-- Matches of P that begin in p end in q. -/
def EN (P : List Nat → Prop) (w : List Nat) (p q : List Bool) : Prop := q.length = w.length + 1 ∧ ∀ j : Nat, j ≤ w.length → (lget q (j : Int) = true ↔ ∃ i : Nat, i ≤ j ∧ lget p (i : Int) = true ∧ P (sl w i j))
theorem EN.congr {P Q : List Nat → Prop} {w : List Nat} {p q : List Bool} (h : EN P w p q) (e : ∀ v, P v ↔ Q v) : EN Q w p q :=
  ⟨h.1, fun j hj => by
    rw [h.2 j hj]
    constructor
    · rintro ⟨i, a, b, c⟩; exact ⟨i, a, b, (e _).1 c⟩
    · rintro ⟨i, a, b, c⟩; exact ⟨i, a, b, (e _).2 c⟩⟩
theorem EN.non {w : List Nat} {p : List Bool} (hp : p.length = w.length + 1) : EN (fun v => v = []) w p p := by
  refine ⟨hp, fun j hj => ⟨fun h => ⟨j, Nat.le_refl _, h, sl_self w j⟩, ?_⟩⟩
  rintro ⟨i, a, b, c⟩
  have := sl_len a hj
  rw [c] at this
  have : i = j := by simp at this; omega
  rw [← this]; exact b
theorem EN.cat {P Q : List Nat → Prop} {w : List Nat} {p m q : List Bool} (h : EN P w p m) (k : EN Q w m q) : EN (fun v => ∃ x y, v = x ++ y ∧ P x ∧ Q y) w p q := by
  refine ⟨k.1, fun j hj => ?_⟩
  rw [k.2 j hj]
  constructor
  · rintro ⟨l, a, b, c⟩
    obtain ⟨i, a', b', c'⟩ := (h.2 l (by omega)).1 b
    exact ⟨i, by omega, b', _, _, (sl_app a' a).symm, c', c⟩
  · rintro ⟨i, a, b, x, y, e, hx, hy⟩
    obtain ⟨l, l1, l2, rfl, rfl⟩ := sl_split a hj e
    exact ⟨l, l2, (h.2 l (by omega)).2 ⟨i, l1, b, hx⟩, hy⟩
def orL (x y : List Bool) : List Bool := List.zipWith (fun a b => a || b) x y
theorem orL_len {x y : List Bool} (h : x.length = y.length) : (orL x y).length = x.length := by simp [orL, h]
theorem orL_get {x y : List Bool} (h : x.length = y.length) (i : Nat) (hi : i < x.length) : lget (orL x y) (i : Int) = (lget x (i : Int) || lget y (i : Int)) := by
  rw [lget_lt _ i (by rw [orL_len h]; exact hi), lget_lt x i hi, lget_lt y i (by omega)]
  simp [orL]
theorem EN.or {P Q : List Nat → Prop} {w : List Nat} {p x y : List Bool} (h : EN P w p x) (k : EN Q w p y) : EN (fun v => P v ∨ Q v) w p (orL x y) := by
  have e : x.length = y.length := by rw [h.1, k.1]
  refine ⟨by rw [orL_len e, h.1], fun j hj => ?_⟩
  rw [orL_get e j (by rw [h.1]; omega), Bool.or_eq_true, h.2 j hj, k.2 j hj]
  constructor
  · rintro (⟨i, a, b, c⟩ | ⟨i, a, b, c⟩)
    · exact ⟨i, a, b, .inl c⟩
    · exact ⟨i, a, b, .inr c⟩
  · rintro ⟨i, a, b, c | c⟩
    · exact .inl ⟨i, a, b, c⟩
    · exact .inr ⟨i, a, b, c⟩
/-- Sound: all in x is reached. -/
def SO (P : List Nat → Prop) (w : List Nat) (p x : List Bool) : Prop := ∀ j : Nat, j ≤ w.length → lget x (j : Int) = true → ∃ i : Nat, i ≤ j ∧ lget p (i : Int) = true ∧ SL P (sl w i j)
theorem SO.self (P : List Nat → Prop) (w : List Nat) (p : List Bool) : SO P w p p := fun j hj h => ⟨j, Nat.le_refl _, h, by rw [sl_self]; exact .nil⟩
theorem SO.or {P : List Nat → Prop} {w : List Nat} {p x q : List Bool} (h : SO P w p x) (hx : x.length = w.length + 1) (k : EN P w x q) : SO P w p (orL x q) := by
  intro j hj hb
  have e : x.length = q.length := by rw [hx, k.1]
  rw [orL_get e j (by omega), Bool.or_eq_true] at hb
  rcases hb with hb | hb
  · exact h j hj hb
  · obtain ⟨m, a, b, c⟩ := (k.2 j hj).1 hb
    obtain ⟨i, a', b', c'⟩ := h m (by omega) b
    refine ⟨i, by omega, b', ?_⟩
    rw [← sl_app a' a]; exact c'.app c
theorem SL.close {P : List Nat → Prop} {w : List Nat} {x : List Bool} (hc : ∀ i j : Nat, i ≤ j → j ≤ w.length → lget x (i : Int) = true → P (sl w i j) → lget x (j : Int) = true) : ∀ v, SL P v → ∀ i j : Nat, i ≤ j → j ≤ w.length → sl w i j = v → lget x (i : Int) = true → lget x (j : Int) = true := by
  intro v h
  induction h with
  | nil =>
    intro i j a b e h
    have := sl_len a b
    rw [e] at this
    have : i = j := by simp at this; omega
    rw [← this]; exact h
  | step u v hu hp _ ih =>
    intro i j a b e h
    obtain ⟨m, m1, m2, rfl, rfl⟩ := sl_split a b e
    exact ih m j m2 b rfl (hc i m m1 (by omega) h hp)
theorem EN.star {P : List Nat → Prop} {w : List Nat} {p x : List Bool} (hs : SO P w p x) (hx : x.length = w.length + 1) (hl : LE p x) (hc : ∀ i j : Nat, i ≤ j → j ≤ w.length → lget x (i : Int) = true → P (sl w i j) → lget x (j : Int) = true) : EN (SL P) w p x := by
  refine ⟨hx, fun j hj => ⟨hs j hj, ?_⟩⟩
  rintro ⟨i, a, b, c⟩
  exact SL.close hc _ c i j a hj rfl (hl _ (by omega) b)
theorem full_of {x : List Bool} (h : x.length ≤ cnt x) (j : Nat) (hj : j < x.length) : lget x (j : Int) = true := by
  have h' : x.count true = x.length := Nat.le_antisymm (cnt_le x) h
  rw [lget_lt x j hj]
  exact (List.count_eq_length.1 h' _ (List.getElem_mem hj)).symm
end Go.Avl.T3
/- Regular expressions over a text: the walk through ends, again, Has, Fits, Through. -/
namespace Go.Avl.T3
open Go Go.RowKit Go.Proofs Go.Avl
set_option linter.all false
set_option maxRecDepth 10000

theorem ror_l (x y : List Bool) (hl : x.length = y.length) (hz : x.length ≤ 100000) : ∀ (m i fuel : Nat) (a : List Bool), i + m = x.length → m < fuel → a.length ≤ i → bosketref04_or_l2 KK x y fuel a (i : Int) = some (a ++ orL (x.drop i) (y.drop i))
  | 0, i, f + 1, a, hi, _, _ => by
    rw [bosketref04_or_l2.eq_2, if_neg (by omega), List.drop_of_length_le (by omega)]
    show some a = some (a ++ []); rw [List.append_nil]
  | m + 1, i, f + 1, a, hi, hf, ha => by
    have h1 : i < x.length := by omega
    have h2 : i < y.length := by omega
    have hlen : ∀ b : Bool, (a ++ ([b] : List Bool)).length * 1 ≤ 140737488355328 := fun b => by simp; omega
    rw [bosketref04_or_l2.eq_2, if_pos (by omega), if_pos ⟨by omega, by omega⟩, lget_lt x i h1, lget_lt y i h2, List.drop_eq_getElem_cons h1, List.drop_eq_getElem_cons h2]
    show _ = some (a ++ ((x[i] || y[i]) :: orL (x.drop (i + 1)) (y.drop (i + 1))))
    have ih := ror_l x y hl hz m (i + 1) f (a ++ [x[i] || y[i]]) (by omega) (by omega) (by simp; omega)
    rw [List.append_assoc] at ih
    unfold bosketref04_or_c1
    rw [w6 (by omega) (by omega)]
    cases hx : x[i] with
    | true =>
      rw [hx] at ih
      rw [if_pos rfl, if_pos (hlen _)]; exact_mod_cast ih
    | false =>
      rw [hx] at ih
      rw [if_neg (by decide), if_pos ⟨by omega, by omega⟩, if_pos (hlen _)]; exact_mod_cast ih
theorem ror_eq {x y : List Bool} (hl : x.length = y.length) (hz : x.length ≤ 100000) : bosketref04_or KK x y = some (orL x y) := by
  have := ror_l x y hl hz x.length 0 KK [] (by omega) (by show _ < 200000; omega) (by simp)
  unfold bosketref04_or
  exact this
theorem again_l3 (rec7 : List Bool → Int → Option (List Bool)) (x : List Bool) (x6 : Int) (t : List Bool) (hl : x.length = t.length) (hz : x.length ≤ 100000) : ∀ (m i fuel : Nat) (b : Bool), i + m = t.length → m < fuel →
    bosketref04_again_l3 KK rec7 x x6 t fuel b (i : Int) = bosketref04_again_c2 KK rec7 x6 t (b && decide (t.drop i = x.drop i))
  | 0, i, f + 1, b, hi, _ => by
    rw [bosketref04_again_l3.eq_2, if_neg (by omega), List.drop_of_length_le (by omega), List.drop_of_length_le (by omega)]; simp
  | m + 1, i, f + 1, b, hi, hf => by
    have h1 : i < t.length := by omega
    have h2 : i < x.length := by omega
    rw [bosketref04_again_l3.eq_2, if_pos (by omega), lget_lt t i h1, lget_lt x i h2, List.drop_eq_getElem_cons h1, List.drop_eq_getElem_cons h2, w6 (by omega) (by omega)]
    have ih := fun b => again_l3 rec7 x x6 t hl hz m (i + 1) f b (by omega) (by omega)
    have e : decide (t[i] :: t.drop (i + 1) = x[i] :: x.drop (i + 1)) = ((t[i] == x[i]) && decide (t.drop (i + 1) = x.drop (i + 1))) := by
      rw [Bool.eq_iff_iff, decide_eq_true_iff, Bool.and_eq_true, beq_iff_eq, decide_eq_true_iff, List.cons.injEq]
    rw [e]
    cases b with
    | true =>
      rw [if_pos rfl, if_pos ⟨by omega, by omega⟩, if_pos ⟨by omega, by omega⟩, Option.bind_some, Bool.true_and]
      exact_mod_cast ih (t[i] == x[i])
    | false =>
      rw [if_neg (by decide), Option.bind_some, Bool.false_and]
      have := ih false
      rw [Bool.false_and] at this
      exact_mod_cast this
theorem again_l4 (self : List S82 → ByteArray → List Bool → Option (List Bool)) (p0 : List S82) (s : ByteArray) (hs : s.size ≤ 1000) (P : List Nat → Prop) (H : ∀ p : List Bool, p.length = s.size + 1 → ∃ q, self p0 s p = some q ∧ EN P (W s) p q) (p : List Bool) : ∀ (d i fuel : Nat) (x : List Bool), i + d = s.size + 1 → d < fuel → x.length = s.size + 1 → i ≤ cnt x → LE p x → SO P (W s) p x →
    ∃ q, bosketref04_again_l4 KK self p0 s fuel x (i : Int) = some q ∧ EN (SL P) (W s) p q
  | 0, i, f + 1, x, hi, _, hx, hc, hl, hso => by
    have hw := W_len s
    rw [bosketref04_again_l4.eq_2, if_neg (by omega)]
    exact ⟨x, rfl, EN.star hso (by rw [hw, hx]) hl fun a b _ hb _ _ => full_of (by omega) b (by omega)⟩
  | d + 1, i, f + 1, x, hi, hf, hx, hc, hl, hso => by
    have hw := W_len s
    obtain ⟨q, q1, q2⟩ := H x hx
    have e : x.length = q.length := by rw [hx, q2.1, hw]
    have hol := orL_len e
    have hle : LE x (orL x q) := fun z hz h => by
      have hz' : z.toNat < x.length := by
        rw [lget_iff] at h
        exact (List.getElem?_eq_some_iff.1 h).1
      have := orL_get e z.toNat hz'
      rw [show ((z.toNat : Nat) : Int) = z by omega] at this
      rw [this, h]; rfl
    rw [bosketref04_again_l4.eq_2, if_pos (by omega), q1, Option.bind_some, ror_eq e (by omega), Option.bind_some]
    have l3 := again_l3 (bosketref04_again_l4 KK self p0 s f) x (i : Int) (orL x q) (by rw [hol]) (by omega) (orL x q).length 0 KK true (by omega) (by show _ < 200000; omega)
    rw [Int.natCast_zero] at l3
    rw [l3, List.drop_zero, List.drop_zero, Bool.true_and]
    unfold bosketref04_again_c2 bosketref04_again_c1
    by_cases a : orL x q = x
    · rw [if_pos (decide_eq_true a), a]
      refine ⟨x, rfl, EN.star hso (by rw [hw, hx]) hl fun u v huv hv hu hp => ?_⟩
      have : lget q (v : Int) = true := (q2.2 v hv).2 ⟨u, huv, hu, hp⟩
      have g := orL_get e v (by omega)
      rw [a, this, Bool.or_true] at g; exact g
    · rw [if_neg (by simpa using a), w6 (by omega) (by omega)]
      have hcn : cnt x < cnt (orL x q) := by
        rcases hle.cnt (by rw [hol]) with k | k
        · exact absurd k.symm a
        · exact k
      have ih := again_l4 self p0 s hs P H p d (i + 1) f (orL x q) (by omega) (by omega) (by rw [hol, hx]) (by omega) (hl.trans hle) (hso.or (by rw [hw, hx]) q2)
      exact_mod_cast ih
theorem one_l3 {st : Vector Int 4} (hu : U st) (s : ByteArray) (hs : s.size ≤ 1000) (p : List Bool) (hp : p.length = s.size + 1) : ∀ (m i fuel : Nat) (x : List Bool), i + m = s.size → m < fuel → x.length = s.size + 1 →
    (∀ j : Nat, j ≤ s.size → (lget x (j : Int) = true ↔ ∃ u : Nat, j = u + 1 ∧ u < i ∧ lget p (u : Int) = true ∧ ∃ h : u < (W s).length, tb st (W s)[u] = true)) →
    ∃ q, bosketref04_ends_l3 KK (ser (.one st)) s p fuel x (i : Int) = some q ∧ EN (Lx (.one st)) (W s) p q
  | 0, i, f + 1, x, hi, _, hx, hq => by
    have hw := W_len s
    rw [bosketref04_ends_l3.eq_2, if_neg (by omega)]
    refine ⟨x, rfl, by rw [hx, hw], fun j hj => ?_⟩
    rw [hq j (by omega)]
    constructor
    · rintro ⟨u, rfl, u1, u2, u3, u4⟩
      exact ⟨u, by omega, u2, (W s)[u], sl_one u3, u4⟩
    · rintro ⟨u, u1, u2, b, e, hb⟩
      have hl := sl_len u1 hj
      rw [e] at hl
      simp at hl
      have : j = u + 1 := by omega
      subst this
      have h3 : u < (W s).length := by omega
      rw [sl_one h3] at e
      exact ⟨u, rfl, by omega, u2, h3, by rw [(List.cons.inj e).1]; exact hb⟩
  | m + 1, i, f + 1, x, hi, hf, hx, hq => by
    have hw := W_len s
    have h3 : i < (W s).length := by omega
    have hb := W_lt s i h3
    have g : 0 ≤ (i : Int) ∧ (i : Int) < (s.size : Int) := ⟨by omega, by omega⟩
    have e1 : w64 (((ser (.one st)).length : Int) - 1) = 0 := by
      rw [show ((ser (.one st)).length : Int) = 1 from rfl]; rfl
    have g2 : 0 ≤ (0 : Int) ∧ (0 : Int) < ((ser (.one st)).length : Int) := ⟨by decide, by show (0 : Int) < 1; decide⟩
    have key : ∀ b : Bool, (b = true ↔ lget p (i : Int) = true ∧ tb st (W s)[i] = true) → ∀ j : Nat, j ≤ s.size → (lget (lset x ((i : Int) + 1) b) (j : Int) = true ↔ ∃ u : Nat, j = u + 1 ∧ u < i + 1 ∧ lget p (u : Int) = true ∧ ∃ h : u < (W s).length, tb st (W s)[u] = true) := by
      intro b hbi j hj
      rw [lget_lsetB x _ _ b (by omega) (by omega) (by omega)]
      by_cases c : (j : Int) = (i : Int) + 1
      · rw [if_pos c, hbi]
        have : j = i + 1 := by omega
        subst this
        constructor
        · rintro ⟨a1, a2⟩; exact ⟨i, rfl, by omega, a1, h3, a2⟩
        · rintro ⟨u, hu1, _, a1, _, a2⟩
          obtain rfl : i = u := by omega
          exact ⟨a1, a2⟩
      · rw [if_neg c, hq j hj]
        constructor
        · rintro ⟨u, hu1, hu2, r⟩; exact ⟨u, hu1, by omega, r⟩
        · rintro ⟨u, hu1, hu2, r⟩; exact ⟨u, hu1, by omega, r⟩
    have go := fun b (hbi : b = true ↔ lget p (i : Int) = true ∧ tb st (W s)[i] = true) => one_l3 hu s hs p hp m (i + 1) f (lset x ((i : Int) + 1) b) (by omega) (by omega) (by rw [lset_len, hx]) (key b hbi)
    rw [bosketref04_ends_l3.eq_2, if_pos g.2, if_pos ⟨by omega, by omega⟩, e1, if_pos g2, if_pos g, show lget (ser (.one st)) (0 : Int) = S82.mk 1 st from rfl, W_get s i h3, w6 (x := (((W s)[i] : Nat) : Int)) (by omega) (by omega), w6 (x := (i : Int) + 1) (by omega) (by omega)]
    unfold bosketref04_ends_c2
    rw [w6 (x := (i : Int) + 1) (by omega) (by omega)]
    have g4 : 0 ≤ (i : Int) + 1 ∧ (i : Int) + 1 < (x.length : Int) := ⟨by omega, by omega⟩
    by_cases c : lget p (i : Int) = true
    · rw [if_pos c, rhas_eq hu hb, Option.bind_some, if_pos g4]
      have := go (tb st (W s)[i]) ⟨fun h => ⟨c, h⟩, fun h => h.2⟩
      exact_mod_cast this
    · rw [if_neg c, if_pos g4]
      have := go false ⟨fun h => (Bool.noConfusion h), fun h => absurd h.1 c⟩
      exact_mod_cast this
theorem ends_r (s : ByteArray) (hs : s.size ≤ 1000) : ∀ (t : Rx), ROK t → (ser t).length ≤ 100000 → ∀ (j : Nat) (p : List Bool), 2 * (ser t).length ≤ j → p.length = s.size + 1 → ∃ q, bosketref04_ends_r KK j (ser t) s p = some q ∧ EN (Lx t) (W s) p q := by
  have hw := W_len s
  intro t
  induction t with
  | non =>
    intro ht hz j p hj hp
    obtain ⟨j, rfl⟩ : ∃ i, j = i + 1 := ⟨j - 1, by have := ser_pos .non; omega⟩
    have e0 : (S82.mk (kind .non) (setOf .non)).f0 = 0 := rfl
    rw [bosketref04_ends_r.eq_2, if_pos ⟨by omega, by omega, by omega⟩, rparts_eq ht hz, Option.bind_some, last_ix hz, if_pos ⟨by omega, by have := ser_pos .non; omega⟩, last_get, e0, if_pos rfl]
    exact ⟨p, rfl, EN.non (by rw [hp, hw])⟩
  | one st =>
    intro ht hz j p hj hp
    have hps := ser_pos (.one st)
    obtain ⟨j, rfl⟩ : ∃ i, j = i + 1 := ⟨j - 1, by omega⟩
    have e0 : (S82.mk (kind (.one st)) (setOf (.one st))).f0 = 1 := rfl
    rw [bosketref04_ends_r.eq_2, if_pos ⟨by omega, by omega, by omega⟩, rparts_eq ht hz, Option.bind_some, last_ix hz, if_pos ⟨by omega, by omega⟩, last_get, e0, if_neg (by decide), if_pos rfl]
    have := one_l3 ht.1 s hs p hp s.size 0 KK (List.replicate (p.length : Int).toNat false) (by omega) (by show _ < 200000; omega) (by simp [hp]) (fun j _ => by
      rw [lget_repB]
      constructor
      · intro h; cases h
      · rintro ⟨u, _, h, _⟩; omega)
    exact_mod_cast this
  | cat a b iha ihb =>
    intro ht hz j p hj hp
    have hlen : (ser (.cat a b)).length = (ser a).length + (ser b).length + 1 := by simp only [ser, List.length_append, List.length_cons, List.length_nil]
    obtain ⟨j, rfl⟩ : ∃ i, j = i + 1 := ⟨j - 1, by omega⟩
    have e0 : (S82.mk (kind (.cat a b)) (setOf (.cat a b))).f0 = 2 := rfl
    have g : ((parts (.cat a b)).length : Int) = 2 := rfl
    have g0 : lget (parts (.cat a b)) (0 : Int) = ser a := rfl
    have g1 : lget (parts (.cat a b)) (1 : Int) = ser b := rfl
    obtain ⟨q, q1, q2⟩ := iha ht.1 (by omega) j p (by omega) hp
    obtain ⟨r, r1, r2⟩ := ihb ht.2 (by omega) j q (by omega) (by rw [q2.1, hw])
    rw [bosketref04_ends_r.eq_2, if_pos ⟨by omega, by omega, by omega⟩, rparts_eq ht hz, Option.bind_some, last_ix hz, if_pos ⟨by omega, by omega⟩, last_get, e0, g, if_neg (by decide), if_neg (by decide), if_pos rfl, if_pos (by decide), if_pos (by decide), g0, q1, Option.bind_some, g1, r1, Option.bind_some]
    exact ⟨r, rfl, q2.cat r2⟩
  | alt a b iha ihb =>
    intro ht hz j p hj hp
    have hlen : (ser (.alt a b)).length = (ser a).length + (ser b).length + 1 := by simp only [ser, List.length_append, List.length_cons, List.length_nil]
    obtain ⟨j, rfl⟩ : ∃ i, j = i + 1 := ⟨j - 1, by omega⟩
    have e0 : (S82.mk (kind (.alt a b)) (setOf (.alt a b))).f0 = 3 := rfl
    have g : ((parts (.alt a b)).length : Int) = 2 := rfl
    have g0 : lget (parts (.alt a b)) (0 : Int) = ser a := rfl
    have g1 : lget (parts (.alt a b)) (1 : Int) = ser b := rfl
    obtain ⟨q, q1, q2⟩ := iha ht.1 (by omega) j p (by omega) hp
    obtain ⟨r, r1, r2⟩ := ihb ht.2 (by omega) j p (by omega) hp
    have hq := q2.1
    have hr := r2.1
    rw [bosketref04_ends_r.eq_2, if_pos ⟨by omega, by omega, by omega⟩, rparts_eq ht hz, Option.bind_some, last_ix hz, if_pos ⟨by omega, by omega⟩, last_get, e0, g, if_neg (by decide), if_neg (by decide), if_neg (by decide), if_pos rfl, if_pos (by decide), g0, q1, Option.bind_some, if_pos (by decide), g1, r1, Option.bind_some, ror_eq (by omega) (by omega), Option.bind_some]
    exact ⟨_, rfl, q2.or r2⟩
  | un k a iha =>
    intro ht hz j p hj hp
    have hlen : (ser (.un k a)).length = (ser a).length + 1 := by simp [ser]
    have hpa := ser_pos a
    have k1 := ht.1
    have k2 := ht.2.1
    obtain ⟨j, rfl⟩ : ∃ i, j = i + 1 + 1 := ⟨j - 2, by omega⟩
    have e0 : (S82.mk (kind (.un k a)) (setOf (.un k a))).f0 = k := rfl
    have g : ((parts (.un k a)).length : Int) = 1 := rfl
    have g0 : lget (parts (.un k a)) (0 : Int) = ser a := rfl
    have st : ∀ x : List Bool, x.length = s.size + 1 → ∃ q, bosketref04_again_r KK (j + 1) (ser a) s x = some q ∧ EN (SL (Lx a)) (W s) x q := by
      intro x hx
      have := again_l4 (bosketref04_ends_r KK j) (ser a) s hs (Lx a) (fun p hp => iha ht.2.2 (by omega) j p (by omega) hp) x (s.size + 1) 0 KK x (by omega) (by show _ < 200000; omega) hx (by omega) (LE.refl x) (SO.self _ _ _)
      rw [Int.natCast_zero] at this
      rw [bosketref04_again_r.eq_2]; exact this
    rw [bosketref04_ends_r.eq_2, if_pos ⟨by omega, by omega, by omega⟩, rparts_eq ht hz, Option.bind_some]
    unfold bosketref04_ends_c0
    rw [last_ix hz, if_pos ⟨by omega, by omega⟩, last_get, e0, g, g0, if_neg (by omega), if_neg (by omega), if_neg (by omega), if_neg (by omega)]
    by_cases k6 : k = 6
    · obtain ⟨q, q1, q2⟩ := iha ht.2.2 (by omega) (j + 1) p (by omega) hp
      have hq := q2.1
      rw [if_pos k6, if_pos (by decide), q1, Option.bind_some, ror_eq (by omega) (by omega), Option.bind_some]
      refine ⟨_, rfl, ((EN.non (by rw [hp, hw])).or q2).congr fun v => ?_⟩
      conv => rhs; unfold Lx
      rw [if_pos k6]
    · rw [if_neg k6]
      by_cases k4 : k = 4
      · obtain ⟨q, q1, q2⟩ := st p hp
        rw [if_pos ⟨by omega, by omega⟩, if_pos k4, if_pos (by decide), q1, Option.bind_some]
        refine ⟨_, rfl, q2.congr fun v => ?_⟩
        conv => rhs; unfold Lx
        rw [if_neg k6, if_pos k4]
      · obtain ⟨q, q1, q2⟩ := iha ht.2.2 (by omega) (j + 1) p (by omega) hp
        obtain ⟨r, r1, r2⟩ := st q (by rw [q2.1, hw])
        rw [if_pos ⟨by omega, by omega⟩, if_neg k4, if_pos (by decide), if_pos (by decide), q1, Option.bind_some, r1, Option.bind_some]
        refine ⟨_, rfl, (q2.cat r2).congr fun v => ?_⟩
        conv => rhs; unfold Lx
        rw [if_neg k6, if_neg k4]
theorem rxhas_eq {t : Rx} (ht : ROK t) (hz : (ser t).length ≤ 400) (s : ByteArray) (hs : s.size ≤ 1000) : ∃ b, bosketref04_Has KK (ser t) s = some b ∧ (b = true ↔ Lx t (W s)) := by
  have hw := W_len s
  have e1 : w64 ((s.size : Int) + 1) = ((s.size + 1 : Nat) : Int) := by rw [w6 (by omega) (by omega)]; omega
  obtain ⟨q, q1, q2⟩ := ends_r s hs t ht (by omega) KK (lset (List.replicate (s.size + 1) false) (0 : Int) true) (by show _ ≤ 200000; omega) (by rw [lset_len, List.length_replicate])
  have hq := q2.1
  refine ⟨lget q (s.size : Int), ?_, ?_⟩
  · unfold bosketref04_Has
    rw [e1, Int.toNat_natCast, if_pos ⟨by omega, by omega, by omega⟩, if_pos ⟨by omega, by rw [List.length_replicate]; omega⟩]
    unfold bosketref04_ends
    rw [q1, Option.bind_some, if_pos ⟨by omega, by omega⟩]
  · rw [q2.2 s.size (by omega)]
    have one : ∀ i : Nat, lget (lset (List.replicate (s.size + 1) false) (0 : Int) true) (i : Int) = true ↔ i = 0 := by
      intro i
      rw [lget_lsetB _ _ _ _ (by omega) (by rw [List.length_replicate]; omega) (by omega), lget_repB]
      by_cases c : (i : Int) = 0
      · rw [if_pos c]; simp; omega
      · rw [if_neg c]; simp; omega
    have hall : sl (W s) 0 s.size = W s := by rw [← hw]; exact sl_all _
    constructor
    · rintro ⟨i, a, b, c⟩
      rw [one] at b
      subst b
      rw [hall] at c; exact c
    · intro h
      exact ⟨0, by omega, (one 0).2 rfl, by rw [hall]; exact h⟩
theorem fits_scan (p0 : List S82) (hz : p0.length ≤ 1000000) : ∀ (t : Rx), ROK t → ∀ (pre post : List S82) (d : Nat) (f : Nat), p0 = pre ++ ser t ++ post → d + (ser t).length ≤ 2000000 →
    bosketref05_Fits_l1 KK p0 (f + (ser t).length) (d : Int) (pre.length : Int) = bosketref05_Fits_l1 KK p0 f ((d + 1 : Nat) : Int) ((pre.length + (ser t).length : Nat) : Int) := by
  have one : ∀ (pre : List S82) (p : S82) (post : List S82) (f : Nat) (d c : Nat), p0 = pre ++ p :: post → tk p.f0 = (c : Int) → c ≤ d → d ≤ 2000000 → bosketref05_Fits_l1 KK p0 (f + 1) (d : Int) (pre.length : Int) = bosketref05_Fits_l1 KK p0 f ((d - c + 1 : Nat) : Int) ((pre.length + 1 : Nat) : Int) := by
    intro pre p post f d c e ht hc hd
    have hl : pre.length < p0.length := by rw [e]; simp
    have hg : lget p0 (pre.length : Int) = p := by rw [e]; exact pget_at pre p post
    rw [bosketref05_Fits_l1.eq_2, if_pos (by omega), if_pos ⟨by omega, by omega⟩, hg, rtakes_eq, Option.bind_some, ht, if_neg (by omega), Option.bind_some, if_neg (by simp; omega), w6 (x := (d : Int) - (c : Int)) (by omega) (by omega), w6 (x := (d : Int) - (c : Int) + 1) (by omega) (by omega), w6 (x := (pre.length : Int) + 1) (by omega) (by omega)]
    rw [show (d : Int) - (c : Int) + 1 = ((d - c + 1 : Nat) : Int) by omega]; rfl
  intro t
  induction t with
  | non => intro _ pre post d f e hd; exact one pre (S82.mk 0 VZ) post f d 0 (by rw [e]; simp [ser]) rfl (by omega) (by omega)
  | one s => intro _ pre post d f e hd; exact one pre (S82.mk 1 s) post f d 0 (by rw [e]; simp [ser]) rfl (by omega) (by omega)
  | cat a b iha ihb =>
    intro hok pre post d f e hs
    have hlen : (ser (.cat a b)).length = (ser a).length + (ser b).length + 1 := by simp only [ser, List.length_append, List.length_cons, List.length_nil]
    have pa := ser_pos a
    have h1 := iha hok.1 pre (ser b ++ S82.mk 2 VZ :: post) d (f + 1 + (ser b).length) (by rw [e]; simp [ser]) (by omega)
    have h2 := ihb hok.2 (pre ++ ser a) (S82.mk 2 VZ :: post) (d + 1) (f + 1) (by rw [e]; simp [ser]) (by omega)
    have h3 := one (pre ++ ser a ++ ser b) (S82.mk 2 VZ) post f (d + 1 + 1) 2 (by rw [e]; simp [ser]) rfl (by omega) (by omega)
    rw [hlen, show f + ((ser a).length + (ser b).length + 1) = f + 1 + (ser b).length + (ser a).length by omega]
    rw [List.length_append] at h2
    rw [show (pre ++ ser a ++ ser b).length = pre.length + (ser a).length + (ser b).length by simp; omega, show d + 1 + 1 - 2 + 1 = d + 1 by omega] at h3
    rw [show pre.length + ((ser a).length + (ser b).length + 1) = pre.length + (ser a).length + (ser b).length + 1 by omega, h1, h2]
    exact h3
  | alt a b iha ihb =>
    intro hok pre post d f e hs
    have hlen : (ser (.alt a b)).length = (ser a).length + (ser b).length + 1 := by simp only [ser, List.length_append, List.length_cons, List.length_nil]
    have pa := ser_pos a
    have h1 := iha hok.1 pre (ser b ++ S82.mk 3 VZ :: post) d (f + 1 + (ser b).length) (by rw [e]; simp [ser]) (by omega)
    have h2 := ihb hok.2 (pre ++ ser a) (S82.mk 3 VZ :: post) (d + 1) (f + 1) (by rw [e]; simp [ser]) (by omega)
    have h3 := one (pre ++ ser a ++ ser b) (S82.mk 3 VZ) post f (d + 1 + 1) 2 (by rw [e]; simp [ser]) rfl (by omega) (by omega)
    rw [hlen, show f + ((ser a).length + (ser b).length + 1) = f + 1 + (ser b).length + (ser a).length by omega]
    rw [List.length_append] at h2
    rw [show (pre ++ ser a ++ ser b).length = pre.length + (ser a).length + (ser b).length by simp; omega, show d + 1 + 1 - 2 + 1 = d + 1 by omega] at h3
    rw [show pre.length + ((ser a).length + (ser b).length + 1) = pre.length + (ser a).length + (ser b).length + 1 by omega, h1, h2]
    exact h3
  | un k a iha =>
    intro hok pre post d f e hs
    have hk : k = 4 ∨ k = 5 ∨ k = 6 := by have := hok.1; have := hok.2.1; omega
    have hlen : (ser (.un k a)).length = (ser a).length + 1 := by simp [ser]
    have h1 := iha hok.2.2 pre (S82.mk k VZ :: post) d (f + 1) (by rw [e]; simp [ser]) (by omega)
    have h3 := one (pre ++ ser a) (S82.mk k VZ) post f (d + 1) 1 (by rw [e]; simp [ser]) (by rcases hk with rfl | rfl | rfl <;> rfl) (by omega) (by omega)
    rw [hlen, show f + ((ser a).length + 1) = f + 1 + (ser a).length by omega]
    rw [show (pre ++ ser a).length = pre.length + (ser a).length by simp, show d + 1 - 1 + 1 = d + 1 by omega] at h3
    rw [show pre.length + ((ser a).length + 1) = pre.length + (ser a).length + 1 by omega, h1]
    exact h3
theorem fits_eq {t : Rx} (ht : ROK t) (hz : (ser t).length ≤ 100000) : bosketref05_Fits KK (ser t) = some true := by
  have := fits_scan (ser t) (by omega) t ht [] [] 0 (KK - (ser t).length) (by simp) (by omega)
  rw [show KK - (ser t).length + (ser t).length = KK by show 200000 - _ + _ = 200000; omega] at this
  unfold bosketref05_Fits
  refine this.trans ?_
  obtain ⟨f, hf⟩ : ∃ f, KK - (ser t).length = f + 1 := ⟨KK - (ser t).length - 1, by show 200000 - _ = 200000 - _ - 1 + 1; omega⟩
  rw [hf, bosketref05_Fits_l1.eq_2, if_neg (by simp)]; rfl
end Go.Avl.T3
/- DerivThrough: the plain law. -/
namespace Go.Avl.T3
open Go Go.RowKit Go.Proofs Go.Avl
set_option linter.all false
set_option maxRecDepth 10000

theorem awake05' : bosketlaw05_awake KK = some true := by decide +kernel
theorem through_l {w : ByteArray} (hw : w.size ≤ 6) {M : Int} (hM : M < 400) {t0 : Rx} : ∀ (m i fuel : Nat) (t : Rx), i + m = w.size → m < fuel → ROK t → (ser t).length ≤ 400 → (∀ v, Lx t v ↔ Lx t0 ((W w).take i ++ v)) →
    ∃ (o : Option Rx) (x : Nat), deriv_Through_l1 KK w M fuel false (ser t) (i : Int) = some (enL o, (x : Int)) ∧ x ≤ w.size ∧
      (x < w.size → ((o = none ∧ ∀ v, ¬ Lx t0 ((W w).take (x + 1) ++ v)) ∨ (∃ u, o = some u ∧ M < ((ser u).length : Int)))) ∧
      (x = w.size → ∃ u, o = some u ∧ ROK u ∧ (ser u).length ≤ 400 ∧ ∀ v, Lx u v ↔ Lx t0 (W w ++ v))
  | 0, i, f + 1, t, hi, _, ht, hz, hL => by
    have hl := W_len w
    rw [deriv_Through_l1.eq_2, if_neg (by omega)]
    refine ⟨some t, w.size, rfl, Nat.le_refl _, fun h => absurd h (Nat.lt_irrefl _), fun _ => ⟨t, rfl, ht, hz, fun v => ?_⟩⟩
    rw [hL v, show i = (W w).length by omega, List.take_length]
  | m + 1, i, f + 1, t, hi, hf, ht, hz, hL => by
    have hl := W_len w
    have h3 : i < (W w).length := by omega
    have hb := W_lt w i h3
    have hd := dv_L (W w)[i] t ht hz
    have hstep : ∀ v, Lx t ((W w)[i] :: v) ↔ Lx t0 ((W w).take (i + 1) ++ v) := by
      intro v
      rw [hL, List.take_succ_eq_append_getElem h3, List.append_assoc]; rfl
    rw [deriv_Through_l1.eq_2, if_pos (by omega), if_pos ⟨by omega, by omega⟩, W_get w i h3, derive_eq hb ht hz, Option.bind_some]
    have hok := dv_ok (W w)[i] t ht
    have hsz := dv_sz400 (W w)[i] hz
    cases e : dv (W w)[i] t with
    | none =>
      have fn : (enL none).f0 = true := rfl
      rw [if_pos fn, Option.bind_some, if_pos rfl]
      refine ⟨none, i, rfl, by omega, fun _ => .inl ⟨rfl, fun v hv => ?_⟩, fun h => by omega⟩
      have := (hd v).2 ((hstep v).2 hv)
      rw [e] at this; exact this
    | some u =>
      rw [e] at hok hsz
      have f0 : ¬ (enL (some u)).f0 = true := Bool.noConfusion
      rw [if_neg f0, Option.bind_some, show (enL (some u)).f1 = ser u from rfl]
      by_cases c : M < ((ser u).length : Int)
      · rw [if_pos (decide_eq_true c)]
        exact ⟨some u, i, rfl, by omega, fun _ => .inr ⟨u, rfl, c⟩, fun h => by omega⟩
      · rw [if_neg (by simpa using c), w6 (by omega) (by omega)]
        have ih := through_l hw hM m (i + 1) f u (by omega) (by omega) hok (by omega) (fun v => by
          have := hd v
          rw [e] at this
          exact this.trans (hstep v))
        exact_mod_cast ih
theorem bosketlaw05_DerivThrough_true (a0 : (List S82)) (a1 : (Vector ByteArray 2)) (a2 : Int) (h0 : wf58 a0) (h1 : wf59 a1) (h2 : wf60 a2) : ∃ k, bosketlaw05_DerivThrough k a0 a1 a2 = some true := by
  refine ⟨KK, ?_⟩
  unfold bosketlaw05_DerivThrough
  rw [awake05', Option.bind_some, if_neg (by decide)]
  by_cases a : (30 : Int) < (a0.length : Int)
  · rw [if_pos a, Option.bind_some, if_pos rfl]
  rw [if_neg a]
  by_cases b : (6 : Int) < ((vget a1 (0 : Int)).size : Int)
  · rw [if_pos b, Option.bind_some, if_pos rfl]
  rw [if_neg b, Option.bind_some]
  by_cases d : (6 : Int) < ((vget a1 (1 : Int)).size : Int)
  · rw [if_pos (decide_eq_true d)]
  rw [if_neg (by simpa using d)]
  generalize vget a1 (0 : Int) = x at *
  generalize vget a1 (1 : Int) = y at *
  have hM : a2.tmod 400 < 400 := Int.tmod_lt_of_pos _ (by decide)
  have h2' : 0 ≤ a2 := by
    have h : (Lit.int .u16 a2).wf = true := h2
    have : 0 ≤ a2 ∧ a2 ≤ 65535 := by
      simpa [Lit.wf, show IntKind.u16.min = 0 from rfl, show IntKind.u16.max = 65535 from rfl] using h
    exact this.1
  have hM0 : 0 ≤ a2.tmod 400 := Int.tmod_nonneg _ h2'
  rw [w6 (x := a2.tmod 400) (by omega) (by omega)]
  generalize a2.tmod 400 = M at *
  obtain ⟨c, c1, c2, c3⟩ := check_eq a0 (by omega) (fun x hx => U_of (h0.2 x hx).2)
  have hcl : slices_Clone_api_Regex_api_Piece__own KK a0 = some a0 := by
    unfold slices_Clone_api_Regex_api_Piece__own
    rw [List.nil_append, if_pos (by omega)]
  unfold deriv_Through
  rw [hcl, Option.bind_some, c1, Option.bind_some]
  by_cases hc : c = 0
  · obtain ⟨t, ht, rfl⟩ := c3 hc
    obtain ⟨o, at', t1, t2, t3, t4⟩ := through_l (w := x) (by omega) hM (t0 := t) x.size 0 KK t (by omega) (by show _ < 200000; omega) ht (by omega) (fun v => by rw [List.take_zero]; rfl)
    rw [Int.natCast_zero] at t1
    rw [if_neg (by simpa using hc), t1, Option.bind_some, c2, Option.bind_some, if_neg (by simpa using hc)]
    show (Option.bind (if (at' : Int) < 0 then some true else some (decide ((x.size : Int) < (at' : Int)))) _) = _
    rw [if_neg (by omega), Option.bind_some, if_neg (by simp; omega)]
    by_cases q : at' < x.size
    · rw [if_pos (show (at' : Int) < (x.size : Int) by omega)]
      rcases t3 q with ⟨rfl, hn⟩ | ⟨u, rfl, hu⟩
      · have e1 : w64 ((at' : Int) + 1) = ((at' + 1 : Nat) : Int) := by rw [w6 (by omega) (by omega)]; omega
        have f0 : (enL none).f0 = true := rfl
        rw [e1, if_pos f0, if_pos ⟨by omega, by omega, by omega⟩, show (0 : Int).toNat = 0 from rfl, Int.toNat_natCast]
        have hsz : (x.extract 0 (at' + 1) ++ y).size ≤ 1000 := by
          rw [← W_len, W_app, List.length_append, W_take x _ (by omega), List.length_take, W_len, W_len]; omega
        have hsz' : (x.extract 0 (at' + 1)).size + y.size ≤ 9223372036854775807 := by
          rw [← ByteArray.size_append]; omega
        obtain ⟨r, r1, r2⟩ := rxhas_eq ht (by omega) _ hsz
        rw [if_pos hsz', r1, Option.bind_some]
        have : r = false := by
          cases r with
          | false => rfl
          | true =>
            have := r2.1 rfl
            rw [W_app, W_take x _ (by omega)] at this
            exact absurd this (hn _)
        rw [this]; rfl
      · have f0 : ¬ (enL (some u)).f0 = true := Bool.noConfusion
        rw [if_neg f0, show (enL (some u)).f1 = ser u from rfl, decide_eq_true hu]; rfl
    · rw [if_neg (show ¬ (at' : Int) < (x.size : Int) by omega)]
      obtain ⟨u, rfl, u1, u2, u3⟩ := t4 (by omega)
      have f0 : (!(enL (some u)).f0) = true := rfl
      obtain ⟨r, r1, r2⟩ := rxhas_eq u1 u2 y (by omega)
      have hsz : (x ++ y).size = x.size + y.size := ByteArray.size_append
      obtain ⟨r', r3, r4⟩ := rxhas_eq ht (by omega) (x ++ y) (by omega)
      rw [if_pos f0, show (enL (some u)).f1 = ser u from rfl, fits_eq u1 (by omega), Option.bind_some, if_pos rfl, r1, Option.bind_some, if_pos (by omega), r3, Option.bind_some, Option.bind_some]
      have : r = r' := by
        rw [Bool.eq_iff_iff, r2, r4, W_app]; exact u3 _
      rw [this]; simp
  · rw [if_pos (by simpa using hc), Option.bind_some, c2, Option.bind_some, if_pos (by simpa using hc)]; rfl
end Go.Avl.T3
