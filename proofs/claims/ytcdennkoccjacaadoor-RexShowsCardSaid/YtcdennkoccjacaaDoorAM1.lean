/- Parts: TEW, TEZ1, TER1, TER2, TEP1, TEM2, TEM3, TEM4, TEM5, TEM6, TEM7. -/
import Derived.Test.YtcdennkoccjacaaDoorAF1
import Derived.Test.YtcdennkoccjacaaDoorAv3
import Derived.Test.YtcdennkoccjacaaDoorAF4
import Derived.Laws.Bits64b
import Derived.Test.YtcdennkoccjacaaDoorAF3
import Derived.Test.YtcdennkoccjacaaDoorAF2
import Derived.Test.YtcdennkoccjacaaDoorAF5
/- Opening of the arguments; printed by avlaw.py. -/
namespace Go.Avl.TE
open Go Go.RowKit Go.Proofs Go.Avl
set_option linter.unusedVariables false
set_option maxRecDepth 100000
abbrev wf3 : Int → Prop := (fun n : Int => (Lit.int .i64 n).wf = true)
theorem op3 : Opens Tryd.prog 3 eI64 wf3 := opens_int Tryd.underlying3
abbrev wf36 : Int → Prop := (fun n : Int => (Lit.int .u64 n).wf = true)
theorem op36 : Opens Tryd.prog 36 eU64 wf36 := opens_int Tryd.underlying36
abbrev wf38 : (Vector Int 4) → Prop := (fun l : Vector Int 4 => ∀ a ∈ l.toList, wf36 a)
theorem op38 : Opens Tryd.prog 38 e38 wf38 := opens_array Tryd.underlying38 sz36 sz38 op36
abbrev wf40 : S40 → Prop := (fun x : S40 => wf3 x.f0 ∧ wf38 x.f1)
theorem op40 : Opens Tryd.prog 40 e40 wf40 := (opens_struct Tryd.underlying40 sz40 (opensF_cons rfl sz3 (by decide) op3 (opensF_cons rfl sz38 (by decide) op38 (opensF_nil _)))).map (fun p => S40.mk p.1 p.2.1) (fun _ => rfl) (fun _ h => ⟨h.1, h.2.1⟩)
abbrev wf23 : (List S40) → Prop := (fun l : List S40 => l.length ≤ 9223372036854775807 ∧ ∀ a ∈ l, wf40 a)
theorem op23 : Opens Tryd.prog 23 e23 wf23 := opens_slice Tryd.underlying23 sz40 op40
end Go.Avl.TE
/- Ported: texts between quotes. -/
namespace Go.Avl.TE
open Go Go.RowKit Go.Proofs Go.Avl
set_option linter.all false
set_option maxRecDepth 10000

def U (a : Vector Int 4) : Prop := ∀ j : Nat, j < 4 → 0 ≤ vget a (j : Int) ∧ vget a (j : Int) < 18446744073709551616
def wd (a : Vector Int 4) (j : Nat) : Nat := (vget a (j : Int)).toNat
/-- Is a byte in a set? -/
def tb (a : Vector Int 4) (b : Nat) : Bool := (wd a (b / 64)).testBit (b % 64)
theorem wd_eq {a : Vector Int 4} (h : U a) (j : Nat) (hj : j < 4) : vget a (j : Int) = (wd a j : Int) ∧ wd a j < 18446744073709551616 := by
  have := h j hj
  unfold wd; omega
theorem vget_vset (v : Vector Int 4) (i j : Nat) (x : Int) (hi : i < 4) (hj : j < 4) : vget (vset v (i : Int) x) (j : Int) = if j = i then x else vget v (j : Int) := by
  unfold vget vset
  rw [Int.toNat_natCast, Int.toNat_natCast, Vector.toList_setIfInBounds, List.getD, List.getD, List.getElem?_set]
  by_cases e : i = j
  · subst e; rw [if_pos rfl, if_pos rfl, if_pos (by simpa using hi)]; rfl
  · rw [if_neg e, if_neg (fun h => e h.symm)]
theorem vext {a c : Vector Int 4} (h : ∀ j : Nat, j < 4 → vget a (j : Int) = vget c (j : Int)) : a = c := by
  apply Vector.toList_inj.1
  apply List.ext_getElem
  · simp
  · intro j h1 h2
    have hj : j < 4 := by simpa using h1
    have := h j hj
    unfold vget at this
    rw [Int.toNat_natCast, List.getD, List.getD, List.getElem?_eq_getElem h1, List.getElem?_eq_getElem h2] at this
    simpa using this
theorem ext_tb {a c : Vector Int 4} (ha : U a) (hc : U c) (h : ∀ b, b < 256 → tb a b = tb c b) : a = c := by
  apply vext
  intro j hj
  obtain ⟨e1, l1⟩ := wd_eq ha j hj
  obtain ⟨e2, l2⟩ := wd_eq hc j hj
  rw [e1, e2]
  congr 1
  apply Nat.eq_of_testBit_eq
  intro i
  by_cases hi : i < 64
  · have := h (64 * j + i) (by omega)
    unfold tb at this
    rwa [show (64 * j + i) / 64 = j by omega, show (64 * j + i) % 64 = i by omega] at this
  · have hp : 18446744073709551616 ≤ 2 ^ i := Nat.le_trans (by decide : 18446744073709551616 ≤ 2 ^ 64) (Nat.pow_le_pow_right (by omega) (by omega))
    rw [Nat.testBit_lt_two_pow (by omega), Nat.testBit_lt_two_pow (by omega)]
theorem U_zero : U (Vector.replicate 4 (0 : Int)) := by
  intro j hj
  have : vget (Vector.replicate 4 (0 : Int)) (j : Int) = 0 := by
    have : j = 0 ∨ j = 1 ∨ j = 2 ∨ j = 3 := by omega
    rcases this with rfl | rfl | rfl | rfl <;> rfl
  rw [this]; omega
theorem tb_zero (b : Nat) (hb : b < 256) : tb (Vector.replicate 4 (0 : Int)) b = false := by
  have hj : b / 64 < 4 := by omega
  have : vget (Vector.replicate 4 (0 : Int)) ((b / 64 : Nat) : Int) = 0 := by
    generalize b / 64 = j at hj
    have : j = 0 ∨ j = 1 ∨ j = 2 ∨ j = 3 := by omega
    rcases this with rfl | rfl | rfl | rfl <;> rfl
  unfold tb wd
  rw [this]; simp
theorem U_of {a : Vector Int 4} (h : wf38 a) : U a := by
  intro j hj
  have h1 : j < a.toList.length := by simpa using hj
  have h2 := h a.toList[j] (List.getElem_mem h1)
  have e : vget a (j : Int) = a.toList[j] := by
    unfold vget
    rw [Int.toNat_natCast, List.getD, List.getElem?_eq_getElem h1]; rfl
  rw [e]
  have h2' : (Lit.int .u64 a.toList[j]).wf = true := h2
  have : 0 ≤ a.toList[j] ∧ a.toList[j] ≤ 18446744073709551615 := by
    generalize a.toList[j] = z at h2'
    simpa [Lit.wf, show IntKind.u64.min = 0 from rfl, show IntKind.u64.max = 18446744073709551615 from rfl] using h2'
  omega
/-- One bit set in a word. -/
theorem or_bit {w : Nat} (hw : w < 18446744073709551616) {i : Nat} (hi : i < 64) : bits .or .u64 (w : Int) (IntKind.u64.wrap ((1 : Int) * 2 ^ (min i IntKind.u64.bits))) = ((w ||| 2 ^ i : Nat) : Int) ∧ w ||| 2 ^ i < 18446744073709551616 := by
  have hp : (2 : Nat) ^ i < 18446744073709551616 := Nat.lt_of_lt_of_le (Nat.pow_lt_pow_right (by omega) hi) (by decide : 2 ^ 64 ≤ 18446744073709551616)
  have e : IntKind.u64.wrap ((1 : Int) * 2 ^ (min i IntKind.u64.bits)) = ((2 ^ i : Nat) : Int) := by
    rw [show min i IntKind.u64.bits = i by show min i 64 = i; omega]
    have := u64_eq (1 * 2 ^ i)
    unfold u64 at this
    rw [this]
    have e3 : ((1 : Int) * 2 ^ i) = ((2 ^ i : Nat) : Int) := by simp
    rw [e3]
    generalize 2 ^ i = q at hp ⊢
    omega
  rw [e, bits_or_u64_nat w (2 ^ i) hw hp]
  exact ⟨rfl, Nat.or_lt_two_pow (n := 64) hw hp⟩
/-- A byte put into a set. -/
theorem put_bit {a : Vector Int 4} (h : U a) {b : Nat} (hb : b < 256) : ∀ c, c = vset a ((b / 64 : Nat) : Int) (bits .or .u64 (vget a ((b / 64 : Nat) : Int)) (IntKind.u64.wrap ((1 : Int) * 2 ^ (min (b % 64) IntKind.u64.bits)))) → U c ∧ ∀ x, x < 256 → tb c x = (tb a x || decide (x = b)) := by
  rintro c rfl
  have hj : b / 64 < 4 := by omega
  obtain ⟨e, l⟩ := wd_eq h (b / 64) hj
  obtain ⟨o1, o2⟩ := or_bit l (i := b % 64) (by omega)
  rw [e, o1]
  constructor
  · intro j hj'
    rw [vget_vset _ _ _ _ hj hj']
    split
    · omega
    · exact h j hj'
  · intro x hx
    unfold tb wd
    rw [vget_vset _ _ _ _ hj (by omega)]
    by_cases q : x / 64 = b / 64
    · rw [if_pos q, Int.toNat_natCast, Nat.testBit_or, Nat.testBit_two_pow, q]
      congr 1
      rw [decide_eq_decide]; omega
    · rw [if_neg q]
      have : decide (x = b) = false := decide_eq_false (fun e => q (by rw [e]))
      rw [this, Bool.or_false]
theorem shr_eq (x k : Nat) (hk : k ≤ 64) : Int.fdiv (x : Int) (2 ^ (min (k : Int).toNat IntKind.u64.bits)) = ((x / 2 ^ k : Nat) : Int) := by
  rw [Int.toNat_natCast, show min k IntKind.u64.bits = k by show min k 64 = k; omega, Int.fdiv_eq_ediv_of_nonneg _ (by exact_mod_cast Nat.zero_le _)]
  norm_cast
theorem ix_i64 (i : Nat) (hi : i < 100000) : IntKind.i64.wrap ((i : Int).tdiv 64) = ((i / 64 : Nat) : Int) := by
  have h1 : (i : Int).tdiv 64 = ((i / 64 : Nat) : Int) := by rw [Int.tdiv_eq_ediv_of_nonneg (by omega)]; omega
  rw [h1]; have := w64_id (n := ((i / 64 : Nat) : Int)) (by omega) (by omega); exact this
theorem ix_u64 (i : Nat) (hi : i < 100000) : u64 ((i : Int).tmod 64) = ((i % 64 : Nat) : Int) := by
  have h1 : (i : Int).tmod 64 = ((i % 64 : Nat) : Int) := by rw [Int.tmod_eq_emod_of_nonneg (by omega)]; omega
  rw [h1, u64_eq]; omega
theorem tmod64 (i : Nat) : (i : Int).tmod 64 = ((i % 64 : Nat) : Int) := by rw [Int.tmod_eq_emod_of_nonneg (by omega)]; omega
theorem ix_u8 (i : Nat) (hi : i < 256) : IntKind.u8.wrap ((i : Int).tdiv 64) = ((i / 64 : Nat) : Int) := by
  have h1 : (i : Int).tdiv 64 = ((i / 64 : Nat) : Int) := by rw [Int.tdiv_eq_ediv_of_nonneg (by omega)]; omega
  rw [h1]; have := w8_id (n := ((i / 64 : Nat) : Int)) (by omega) (by omega); exact this
theorem rhas_l (x : Nat) (hx : x < 256) : ∀ (m i fuel : Nat) (w : Nat), i + m = x % 64 → m < fuel → w < 18446744073709551616 →
    bosketref02_Has_l1 200000 (x : Int) fuel (w : Int) (i : Int) = some (w.testBit m)
  | 0, i, f + 1, w, h, _, hw => by
    rw [bosketref02_Has_l1.eq_2, tmod64, if_neg (by omega), bosketref02_Has_c0, Nat.testBit_zero]
    congr 1
    rw [decide_eq_decide, Int.tmod_eq_emod_of_nonneg (by omega)]; omega
  | m + 1, i, f + 1, w, h, hf, hw => by
    have e : IntKind.u64.wrap ((w : Int).tdiv 2) = ((w / 2 : Nat) : Int) := by
      rw [Int.tdiv_eq_ediv_of_nonneg (by omega)]
      have := u64_eq ((w : Int) / 2)
      unfold u64 at this
      rw [this]; omega
    rw [bosketref02_Has_l1.eq_2, tmod64, if_pos (by omega), e, w64_id (by omega) (by omega)]
    have := rhas_l x hx m (i + 1) f (w / 2) (by omega) (by omega) (by omega)
    rw [Nat.testBit_succ]
    exact_mod_cast this
theorem rhas_eq {a : Vector Int 4} (ha : U a) {x : Nat} (hx : x < 256) : bosketref02_Has 200000 a (x : Int) = some (tb a x) := by
  obtain ⟨e, l⟩ := wd_eq ha (x / 64) (by omega)
  unfold bosketref02_Has
  rw [ix_i64 x (by omega), if_pos ⟨by omega, by omega⟩, e]
  have := rhas_l x hx (x % 64) 0 200000 (wd a (x / 64)) (by omega) (by omega) l
  exact this
end Go.Avl.TE
/- Regular expressions behind their parts: as trees; their parts. -/
namespace Go.Avl.TE
open Go Go.RowKit Go.Proofs Go.Avl
set_option linter.all false
set_option maxRecDepth 10000

abbrev KK : Nat := 200000
def VZ : Vector Int 4 := Vector.replicate 4 (0 : Int)
inductive Rx where
  | non
  | one (s : Vector Int 4)
  | cat (a b : Rx)
  | alt (a b : Rx)
  | un (k : Int) (a : Rx)
def ser : Rx → List S40
  | .non => [S40.mk 0 VZ]
  | .one s => [S40.mk 1 s]
  | .cat a b => ser a ++ ser b ++ [S40.mk 2 VZ]
  | .alt a b => ser a ++ ser b ++ [S40.mk 3 VZ]
  | .un k a => ser a ++ [S40.mk k VZ]
def ROK : Rx → Prop
  | .non => True
  | .one s => U s ∧ s ≠ VZ
  | .cat a b => ROK a ∧ ROK b
  | .alt a b => ROK a ∧ ROK b
  | .un k a => 4 ≤ k ∧ k ≤ 6 ∧ ROK a
theorem ser_pos : ∀ t : Rx, 0 < (ser t).length
  | .non => by simp [ser]
  | .one _ => by simp [ser]
  | .cat a b => by simp [ser]; omega
  | .alt a b => by simp [ser]; omega
  | .un k a => by simp [ser]
def tk (k : Int) : Int := if k = 0 ∨ k = 1 then 0 else if k = 2 ∨ k = 3 then 2 else if k = 4 ∨ k = 5 ∨ k = 6 then 1 else -1
theorem takes_eq (K : Nat) (k : Int) : rex_Takes K k = some (tk k) := by
  unfold rex_Takes rex_Takes_c2 rex_Takes_c1 rex_Takes_c0 tk
  by_cases h0 : k = 0
  · subst h0; rfl
  by_cases h1 : k = 1
  · subst h1; rfl
  by_cases h2 : k = 2
  · subst h2; rfl
  by_cases h3 : k = 3
  · subst h3; rfl
  by_cases h4 : k = 4
  · subst h4; rfl
  by_cases h5 : k = 5
  · subst h5; rfl
  by_cases h6 : k = 6
  · subst h6; rfl
  simp [h0, h1, h2, h3, h4, h5, h6]
theorem rtakes_eq (K : Nat) (k : Int) : bosketref04_Takes K k = some (tk k) := by
  unfold bosketref04_Takes tk
  by_cases a : k < 0
  · rw [if_pos a, Option.bind_some, if_pos rfl, if_neg (by omega), if_neg (by omega), if_neg (by omega)]
  by_cases b : (6 : Int) < k
  · rw [if_neg a, Option.bind_some, if_pos (by simpa using b), if_neg (by omega), if_neg (by omega), if_neg (by omega)]
  rw [if_neg a, Option.bind_some, if_neg (by simpa using b), if_pos ⟨by omega, by simp; omega⟩]
  have : k = 0 ∨ k = 1 ∨ k = 2 ∨ k = 3 ∨ k = 4 ∨ k = 5 ∨ k = 6 := by omega
  rcases this with rfl | rfl | rfl | rfl | rfl | rfl | rfl <;> rfl
theorem w6 {x : Int} (h0 : -1000000000000 ≤ x) (h1 : x ≤ 1000000000000) : w64 x = x := w64_id (by omega) (by omega)
theorem pget (l : List S40) (i : Nat) (h : i < l.length) : lget l (i : Int) = l[i] := by simp [lget, List.getD, List.getElem?_eq_getElem h]
theorem pget_at (pre : List S40) (p : S40) (post : List S40) : lget (pre ++ p :: post) (pre.length : Int) = p := by
  rw [pget _ _ (by simp)]; simp
/-- A stack of trees, the last one ahead. -/
def fl : List Rx → List S40
  | [] => []
  | t :: st => fl st ++ ser t
/-- May a piece stand behind so many? -/
def pOK (n : Int) (p : S40) : Bool := !(decide (tk p.f0 < 0) || decide (n < tk p.f0) || (decide (p.f0 = 1) == decide (p.f1 = VZ)))
theorem step_stk {st : List Rx} (hst : ∀ t ∈ st, ROK t) {p : S40} (hu : U p.f1) (h : pOK (st.length : Int) p = true) :
    ∃ st', (∀ t ∈ st', ROK t) ∧ fl st' = fl st ++ [p] ∧ (st'.length : Int) = st.length - tk p.f0 + 1 := by
  obtain ⟨k, s⟩ := p
  simp only [pOK, Bool.not_eq_true', Bool.or_eq_false_iff, decide_eq_false_iff_not] at h
  obtain ⟨⟨h1, h2⟩, h3⟩ := h
  have hz : k ≠ 1 → s = VZ := by
    intro hk
    have : (false == decide (s = VZ)) = false := by rwa [decide_eq_false hk] at h3
    by_cases q : s = VZ
    · exact q
    · rw [decide_eq_false q] at this; cases this
  have hk : k = 0 ∨ k = 1 ∨ k = 2 ∨ k = 3 ∨ k = 4 ∨ k = 5 ∨ k = 6 := by
    unfold tk at h1
    split at h1
    · omega
    · split at h1
      · omega
      · split at h1
        · omega
        · exact absurd (by decide) h1
  have un : ∀ k' : Int, 4 ≤ k' → k' ≤ 6 → k = k' → tk k = 1 → ∃ st', (∀ t ∈ st', ROK t) ∧ fl st' = fl st ++ [S40.mk k s] ∧ (st'.length : Int) = st.length - tk k + 1 := by
    intro k' a b e et
    cases st with
    | nil => rw [et] at h2; simp at h2
    | cons t st =>
      refine ⟨.un k t :: st, fun u hu => ?_, ?_, ?_⟩
      · rcases List.mem_cons.1 hu with rfl | hu
        · exact ⟨by omega, by omega, hst t (by simp)⟩
        · exact hst u (by simp [hu])
      · rw [hz (by omega)]; simp [fl, ser]
      · rw [et]; simp
  rcases hk with rfl | rfl | rfl | rfl | rfl | rfl | rfl
  · refine ⟨.non :: st, fun u hu => ?_, by rw [hz (by decide)]; rfl, by simp [tk]⟩
    rcases List.mem_cons.1 hu with rfl | hu
    · trivial
    · exact hst u hu
  · refine ⟨.one s :: st, fun u hu' => ?_, rfl, by simp [tk]⟩
    rcases List.mem_cons.1 hu' with rfl | hu'
    · refine ⟨hu, fun e => ?_⟩
      rw [decide_eq_true e] at h3; cases h3
    · exact hst u hu'
  · match st, hst, h2 with
    | [], _, h2 => simp [tk] at h2
    | [_], _, h2 => simp [tk] at h2
    | b :: a :: st, hst, _ =>
      refine ⟨.cat a b :: st, fun u hu => ?_, by rw [hz (by decide)]; simp [fl, ser], by simp [tk]; omega⟩
      rcases List.mem_cons.1 hu with rfl | hu
      · exact ⟨hst a (by simp), hst b (by simp)⟩
      · exact hst u (by simp [hu])
  · match st, hst, h2 with
    | [], _, h2 => simp [tk] at h2
    | [_], _, h2 => simp [tk] at h2
    | b :: a :: st, hst, _ =>
      refine ⟨.alt a b :: st, fun u hu => ?_, by rw [hz (by decide)]; simp [fl, ser], by simp [tk]; omega⟩
      rcases List.mem_cons.1 hu with rfl | hu
      · exact ⟨hst a (by simp), hst b (by simp)⟩
      · exact hst u (by simp [hu])
  · exact un 4 (by omega) (by omega) rfl rfl
  · exact un 5 (by omega) (by omega) rfl rfl
  · exact un 6 (by omega) (by omega) rfl rfl
theorem tk_le (k : Int) : -1 ≤ tk k ∧ tk k ≤ 2 := by unfold tk; repeat (first | omega | split)
theorem check_l (p : List S40) (hp : p.length ≤ 400) (hu : ∀ x ∈ p, U x.f1) : ∀ (m i fuel : Nat) (st : List Rx), i + m = p.length → m < fuel → fl st = p.take i → (∀ t ∈ st, ROK t) → st.length ≤ i →
    ∃ c, rex_Check_l1 KK p fuel (st.length : Int) (i : Int) = some c ∧ bosketref04_Check_l1 KK p fuel (st.length : Int) (i : Int) = some c ∧ (c = 0 → ∃ t, ROK t ∧ p = ser t)
  | 0, i, f + 1, st, hi, _, hfl, hst, hz => by
    rw [rex_Check_l1.eq_2, bosketref04_Check_l1.eq_2, if_neg (by omega), if_neg (by omega)]
    unfold rex_Check_c0 bosketref04_Check_c0
    by_cases a : (st.length : Int) = 1
    · rw [if_neg (by simpa using a)]
      refine ⟨0, rfl, rfl, fun _ => ?_⟩
      match st, a with
      | [t], _ =>
        rw [List.take_of_length_le (by omega)] at hfl
        exact ⟨t, hst t (by simp), by rw [← hfl]; simp [fl]⟩
    · rw [if_pos a]
      exact ⟨5, rfl, rfl, fun e => by cases e⟩
  | m + 1, i, f + 1, st, hi, hf, hfl, hst, hz => by
    have hi' : i < p.length := by omega
    have g : 0 ≤ (i : Int) ∧ (i : Int) < (p.length : Int) := ⟨by omega, by omega⟩
    have htk := tk_le p[i].f0
    rw [rex_Check_l1.eq_2, bosketref04_Check_l1.eq_2, if_pos g.2, if_pos g, if_pos g.2, if_pos g, pget p i hi', takes_eq, rtakes_eq, Option.bind_some, Option.bind_some, if_pos g, if_pos g]
    unfold byteset_Empty
    rw [Option.bind_some]
    have key : ∀ n : Int, (if tk p[i].f0 < 0 then some true else if n < tk p[i].f0 then some true else some (decide (p[i].f0 = 1) == decide (p[i].f1 = Vector.replicate 4 (0 : Int)))) = some (!pOK n p[i]) := by
      intro n
      unfold pOK
      by_cases a : tk p[i].f0 < 0
      · rw [if_pos a, decide_eq_true a]; rfl
      · rw [if_neg a, decide_eq_false a]
        by_cases b : n < tk p[i].f0
        · rw [if_pos b, decide_eq_true b]; rfl
        · rw [if_neg b, decide_eq_false b]; simp only [Bool.false_or, Bool.not_not]; rfl
    rw [key, Option.bind_some, Option.bind_some]
    cases e : pOK (st.length : Int) p[i] with
    | false => exact ⟨5, rfl, rfl, fun e => by cases e⟩
    | true =>
      obtain ⟨st', s1, s2, s3⟩ := step_stk hst (hu _ (List.getElem_mem hi')) e
      have s4 : (st'.length : Int) ≤ (i : Int) + 1 := by
        have : 0 ≤ tk p[i].f0 := by
          simp only [pOK, Bool.not_eq_true', Bool.or_eq_false_iff, decide_eq_false_iff_not] at e
          omega
        omega
      obtain ⟨c, c1, c2, c3⟩ := check_l p hp hu m (i + 1) f st' (by omega) (by omega) (by rw [s2, hfl]; exact List.take_append_getElem hi') s1 (by omega)
      rw [if_neg (by decide), if_neg (by decide), w6 (x := 1 - tk p[i].f0) (by omega) (by omega), w6 (x := (st.length : Int) + (1 - tk p[i].f0)) (by omega) (by omega), w6 (x := (st.length : Int) - tk p[i].f0) (by omega) (by omega), w6 (x := (st.length : Int) - tk p[i].f0 + 1) (by omega) (by omega), w6 (x := (i : Int) + 1) (by omega) (by omega),
        show (st.length : Int) + (1 - tk p[i].f0) = (st'.length : Int) by omega, show (st.length : Int) - tk p[i].f0 + 1 = (st'.length : Int) by omega, show (i : Int) + 1 = ((i + 1 : Nat) : Int) by omega]
      exact ⟨c, c1, c2, c3⟩
/-- Both checks; what passes is a tree's text. -/
theorem check_eq (p : List S40) (hp : p.length ≤ 400) (hu : ∀ x ∈ p, U x.f1) : ∃ c, rex_Check KK p = some c ∧ bosketref04_Check KK p = some c ∧ (c = 0 → ∃ t, ROK t ∧ p = ser t) := by
  unfold rex_Check bosketref04_Check
  rw [if_neg (by omega), if_neg (by omega)]
  exact check_l p hp hu p.length 0 KK [] (by omega) (by show p.length < 200000; omega) rfl (fun t ht => by cases ht) (by simp)
/-! Where a part begins. -/
theorem start_scan (p0 : List S40) (hz : p0.length ≤ 1000000) : ∀ (t : Rx), ROK t → ∀ (pre post : List S40) (need : Int) (f : Nat), p0 = pre ++ ser t ++ post → 1 ≤ need → need ≤ 1000000000 - (ser t).length →
    rex_Start_l1 KK p0 (f + (ser t).length) need ((pre.length : Int) + (ser t).length - 1) = (if need = 1 then some (pre.length : Int) else rex_Start_l1 KK p0 f (need - 1) ((pre.length : Int) - 1)) ∧
    bosketref04_Start_l1 KK p0 (f + (ser t).length) need ((pre.length : Int) + (ser t).length - 1) = (if need = 1 then some (pre.length : Int) else bosketref04_Start_l1 KK p0 f (need - 1) ((pre.length : Int) - 1)) := by
  -- one piece back
  have back : ∀ (pre : List S40) (p : S40) (post : List S40) (need : Int) (f : Nat), p0 = pre ++ p :: post → 1 ≤ need → need ≤ 1000000000 → 0 ≤ tk p.f0 →
      rex_Start_l1 KK p0 (f + 1) need (pre.length : Int) = (if need - 1 + tk p.f0 = 0 then some (pre.length : Int) else rex_Start_l1 KK p0 f (need - 1 + tk p.f0) ((pre.length : Int) - 1)) ∧
      bosketref04_Start_l1 KK p0 (f + 1) need (pre.length : Int) = (if need - 1 + tk p.f0 = 0 then some (pre.length : Int) else bosketref04_Start_l1 KK p0 f (need - 1 + tk p.f0) ((pre.length : Int) - 1)) := by
    intro pre p post need f e h1 h2 h3
    have hl : pre.length < p0.length := by rw [e]; simp
    have htk := tk_le p.f0
    have hg : lget p0 (pre.length : Int) = p := by rw [e]; exact pget_at pre p post
    have g0 : (0 : Int) ≤ (pre.length : Int) := by omega
    have g1 : 0 ≤ (pre.length : Int) ∧ (pre.length : Int) < (p0.length : Int) := ⟨by omega, by omega⟩
    constructor
    · rw [rex_Start_l1.eq_2, if_pos g0, if_pos g1, hg, takes_eq, Option.bind_some, w6 (x := tk p.f0 - 1) (by omega) (by omega), w6 (x := need + (tk p.f0 - 1)) (by omega) (by omega), w6 (x := (pre.length : Int) - 1) (by omega) (by omega), show need + (tk p.f0 - 1) = need - 1 + tk p.f0 by omega]
    · rw [bosketref04_Start_l1.eq_2, if_pos g0, if_pos g1, hg, rtakes_eq, Option.bind_some, w6 (x := need - 1) (by omega) (by omega), w6 (x := need - 1 + tk p.f0) (by omega) (by omega), w6 (x := (pre.length : Int) - 1) (by omega) (by omega)]
  intro t
  have two : ∀ (k : Int) (a b : Rx), tk k = 2 → (∀ (pre post : List S40) (need : Int) (f : Nat), p0 = pre ++ ser a ++ post → 1 ≤ need → need ≤ 1000000000 - (ser a).length →
    rex_Start_l1 KK p0 (f + (ser a).length) need ((pre.length : Int) + (ser a).length - 1) = (if need = 1 then some (pre.length : Int) else rex_Start_l1 KK p0 f (need - 1) ((pre.length : Int) - 1)) ∧
    bosketref04_Start_l1 KK p0 (f + (ser a).length) need ((pre.length : Int) + (ser a).length - 1) = (if need = 1 then some (pre.length : Int) else bosketref04_Start_l1 KK p0 f (need - 1) ((pre.length : Int) - 1))) →
    (∀ (pre post : List S40) (need : Int) (f : Nat), p0 = pre ++ ser b ++ post → 1 ≤ need → need ≤ 1000000000 - (ser b).length →
    rex_Start_l1 KK p0 (f + (ser b).length) need ((pre.length : Int) + (ser b).length - 1) = (if need = 1 then some (pre.length : Int) else rex_Start_l1 KK p0 f (need - 1) ((pre.length : Int) - 1)) ∧
    bosketref04_Start_l1 KK p0 (f + (ser b).length) need ((pre.length : Int) + (ser b).length - 1) = (if need = 1 then some (pre.length : Int) else bosketref04_Start_l1 KK p0 f (need - 1) ((pre.length : Int) - 1))) →
    ∀ (pre post : List S40) (need : Int) (f : Nat), p0 = pre ++ (ser a ++ ser b ++ [S40.mk k VZ]) ++ post → 1 ≤ need → need ≤ 1000000000 - (ser a ++ ser b ++ [S40.mk k VZ]).length →
    rex_Start_l1 KK p0 (f + (ser a ++ ser b ++ [S40.mk k VZ]).length) need ((pre.length : Int) + (ser a ++ ser b ++ [S40.mk k VZ]).length - 1) = (if need = 1 then some (pre.length : Int) else rex_Start_l1 KK p0 f (need - 1) ((pre.length : Int) - 1)) ∧
    bosketref04_Start_l1 KK p0 (f + (ser a ++ ser b ++ [S40.mk k VZ]).length) need ((pre.length : Int) + (ser a ++ ser b ++ [S40.mk k VZ]).length - 1) = (if need = 1 then some (pre.length : Int) else bosketref04_Start_l1 KK p0 f (need - 1) ((pre.length : Int) - 1)) := by
    intro k a b hk iha ihb pre post need f e h1 h2
    have hla := ser_pos a
    have hlb := ser_pos b
    have hlen : (ser a ++ ser b ++ [S40.mk k VZ]).length = (ser a).length + (ser b).length + 1 := by simp only [List.length_append, List.length_cons, List.length_nil]
    rw [hlen] at h2 ⊢
    have b1 := back (pre ++ ser a ++ ser b) (S40.mk k VZ) post need (f + (ser a).length + (ser b).length) (by rw [e]; simp) h1 (by omega) (by rw [hk]; omega)
    rw [hk, if_neg (by omega), if_neg (by omega)] at b1
    have b2 := ihb (pre ++ ser a) (S40.mk k VZ :: post) (need - 1 + 2) (f + (ser a).length) (by rw [e]; simp) (by omega) (by omega)
    rw [if_neg (by omega), if_neg (by omega)] at b2
    have b3 := iha pre (ser b ++ S40.mk k VZ :: post) need f (by rw [e]; simp) h1 (by omega)
    have i1 : ((pre ++ ser a ++ ser b).length : Int) = (pre.length : Int) + (((ser a).length + (ser b).length + 1 : Nat) : Int) - 1 := by simp only [List.length_append, List.length_cons, List.length_nil]; omega
    have i2 : ((pre ++ ser a ++ ser b).length : Int) - 1 = ((pre ++ ser a).length : Int) + (ser b).length - 1 := by simp only [List.length_append, List.length_cons, List.length_nil]; omega
    have i3 : ((pre ++ ser a).length : Int) - 1 = (pre.length : Int) + (ser a).length - 1 := by simp only [List.length_append, List.length_cons, List.length_nil]; omega
    have i4 : need - 1 + 2 - 1 = need := by omega
    rw [i2] at b1
    rw [i1] at b1
    rw [i3, i4] at b2
    rw [show f + ((ser a).length + (ser b).length + 1) = f + (ser a).length + (ser b).length + 1 by omega]
    exact ⟨b1.1.trans (b2.1.trans b3.1), b1.2.trans (b2.2.trans b3.2)⟩
  induction t with
  | non =>
    intro _ pre post need f e h1 h2
    have := back pre (S40.mk 0 VZ) post need f (by rw [e]; simp [ser]) h1 (by simp [ser] at h2; omega) (by decide)
    have e0 : need - 1 + tk 0 = need - 1 := by rw [show tk 0 = 0 from rfl]; omega
    rw [e0] at this
    have i1 : (pre.length : Int) + ((ser .non).length : Int) - 1 = (pre.length : Int) := by simp [ser]
    rw [i1]
    by_cases q : need = 1
    · rw [if_pos q, if_pos q]; rw [if_pos (by omega), if_pos (by omega)] at this; exact this
    · rw [if_neg q, if_neg q]; rw [if_neg (by omega), if_neg (by omega)] at this; exact this
  | one s =>
    intro _ pre post need f e h1 h2
    have := back pre (S40.mk 1 s) post need f (by rw [e]; simp [ser]) h1 (by simp [ser] at h2; omega) (by show 0 ≤ tk 1; decide)
    have e0 : need - 1 + tk (S40.mk 1 s).f0 = need - 1 := by rw [show tk (S40.mk 1 s).f0 = 0 from rfl]; omega
    rw [e0] at this
    have i1 : (pre.length : Int) + ((ser (.one s)).length : Int) - 1 = (pre.length : Int) := by simp [ser]
    rw [i1]
    by_cases q : need = 1
    · rw [if_pos q, if_pos q]; rw [if_pos (by omega), if_pos (by omega)] at this; exact this
    · rw [if_neg q, if_neg q]; rw [if_neg (by omega), if_neg (by omega)] at this; exact this
  | cat a b iha ihb =>
    intro hok pre post need f e h1 h2
    exact two 2 a b rfl (iha hok.1) (ihb hok.2) pre post need f e h1 h2
  | alt a b iha ihb =>
    intro hok pre post need f e h1 h2
    exact two 3 a b rfl (iha hok.1) (ihb hok.2) pre post need f e h1 h2
  | un k a iha =>
    intro hok pre post need f e h1 h2
    have hk : tk k = 1 := by
      have : k = 4 ∨ k = 5 ∨ k = 6 := by have := hok.1; have := hok.2.1; omega
      rcases this with rfl | rfl | rfl <;> rfl
    have hla := ser_pos a
    have hlen : (ser (.un k a)).length = (ser a).length + 1 := by simp [ser]
    rw [hlen] at h2 ⊢
    have b1 := back (pre ++ ser a) (S40.mk k VZ) post need (f + (ser a).length) (by rw [e]; simp [ser]) h1 (by omega) (by show 0 ≤ tk k; omega)
    rw [show tk (S40.mk k VZ).f0 = 1 from hk, if_neg (by omega), if_neg (by omega), show need - 1 + 1 = need by omega] at b1
    have b3 := iha hok.2.2 pre (S40.mk k VZ :: post) need f (by rw [e]; simp [ser]) h1 (by omega)
    have i1 : ((pre ++ ser a).length : Int) = (pre.length : Int) + (((ser a).length + 1 : Nat) : Int) - 1 := by simp only [List.length_append, List.length_cons, List.length_nil]; omega
    have i3 : ((pre ++ ser a).length : Int) - 1 = (pre.length : Int) + (ser a).length - 1 := by simp only [List.length_append, List.length_cons, List.length_nil]; omega
    rw [i3] at b1
    rw [i1] at b1
    rw [show f + ((ser a).length + 1) = f + (ser a).length + 1 by omega]
    exact ⟨b1.1.trans b3.1, b1.2.trans b3.2⟩
theorem start_eq {p0 : List S40} (hz : p0.length ≤ 100000) {t : Rx} (ht : ROK t) {pre post : List S40} (e : p0 = pre ++ ser t ++ post) :
    rex_Start KK p0 ((pre.length : Int) + (ser t).length - 1) = some (pre.length : Int) ∧ bosketref04_Start KK p0 ((pre.length : Int) + (ser t).length - 1) = some (pre.length : Int) := by
  have hl : (ser t).length ≤ p0.length := by rw [e]; simp; omega
  have := start_scan p0 (by omega) t ht pre post 1 (KK - (ser t).length) e (by omega) (by omega)
  rw [if_pos rfl, if_pos rfl, show KK - (ser t).length + (ser t).length = KK by show 200000 - _ + _ = 200000; omega] at this
  exact this
/-! Parts. -/
def parts : Rx → List (List S40)
  | .cat a b => [ser a, ser b]
  | .alt a b => [ser a, ser b]
  | .un _ a => [ser a]
  | _ => []
def kind : Rx → Int
  | .non => 0
  | .one _ => 1
  | .cat _ _ => 2
  | .alt _ _ => 3
  | .un k _ => k
theorem last_ix {t : Rx} (hz : (ser t).length ≤ 100000) : w64 (((ser t).length : Int) - 1) = (((ser t).length - 1 : Nat) : Int) := by
  have := ser_pos t
  rw [w6 (by omega) (by omega)]; omega
def setOf : Rx → Vector Int 4
  | .one s => s
  | _ => VZ
theorem last_get : ∀ (t : Rx), lget (ser t) (((ser t).length - 1 : Nat) : Int) = S40.mk (kind t) (setOf t)
  | .non => rfl
  | .one s => rfl
  | .cat a b => by
    have : (ser (.cat a b)).length - 1 = (ser a ++ ser b).length := by simp [ser]
    rw [this]; exact pget_at (ser a ++ ser b) _ []
  | .alt a b => by
    have : (ser (.alt a b)).length - 1 = (ser a ++ ser b).length := by simp [ser]
    rw [this]; exact pget_at (ser a ++ ser b) _ []
  | .un k a => by
    have : (ser (.un k a)).length - 1 = (ser a).length := by simp [ser]
    rw [this]; exact pget_at (ser a) _ []
theorem lcut_mid (a b c : List S40) : lcut (a ++ b ++ c) (a.length : Int) ((a.length + b.length : Nat) : Int) = b := by
  unfold lcut
  rw [Int.toNat_natCast, Int.toNat_natCast, List.take_append_of_le_length (by simp), List.take_of_length_le (by simp), List.drop_left]
theorem lcut_pre (a b : List S40) : lcut (a ++ b) 0 (a.length : Int) = a := by
  unfold lcut
  rw [Int.toNat_natCast, List.take_left]; rfl
theorem clone_eq (l : List S40) (hz : l.length ≤ 1000000) : slices_Clone_api_Regex_api_Piece_ KK l = some l ∧ slices_Clone_api_Regex_api_Piece__own KK l = some l := by
  unfold slices_Clone_api_Regex_api_Piece_ slices_Clone_api_Regex_api_Piece__own
  rw [List.nil_append, if_pos (by omega)]; exact ⟨rfl, rfl⟩
theorem parts_eq {t : Rx} (ht : ROK t) (hz : (ser t).length ≤ 100000) : rex_Parts KK (ser t) = some (parts t) := by
  have hp := ser_pos t
  have hx := last_ix hz
  unfold rex_Parts
  rw [if_neg (by omega), hx, if_pos ⟨by omega, by omega⟩, last_get, takes_eq, Option.bind_some]
  have two : ∀ (k : Int) (a b : Rx), ROK a → ROK b → ser t = ser a ++ ser b ++ [S40.mk k VZ] → (rex_Start KK (ser t) (w64 (((ser t).length : Int) - 2))).bind (fun t12 =>
      if 0 ≤ (0 : Int) ∧ (0 : Int) ≤ t12 ∧ t12 ≤ ((ser t).length : Int) then (slices_Clone_api_Regex_api_Piece_ KK (lcut (ser t) (0 : Int) t12)).bind fun t14 =>
      if 0 ≤ t12 ∧ t12 ≤ (((ser t).length - 1 : Nat) : Int) ∧ (((ser t).length - 1 : Nat) : Int) ≤ ((ser t).length : Int) then (slices_Clone_api_Regex_api_Piece_ KK (lcut (ser t) t12 (((ser t).length - 1 : Nat) : Int))).bind fun t16 => some [t14, t16] else none else none) = some [ser a, ser b] := by
    intro k a b ha hb e
    have hlen : (ser t).length = (ser a).length + (ser b).length + 1 := by rw [e]; simp only [List.length_append, List.length_cons, List.length_nil]
    have hla := ser_pos a
    have hlb := ser_pos b
    have hs := start_eq (p0 := ser t) hz hb (pre := ser a) (post := [S40.mk k VZ]) (by rw [e])
    rw [w6 (x := ((ser t).length : Int) - 2) (by omega) (by omega), show ((ser t).length : Int) - 2 = ((ser a).length : Int) + (ser b).length - 1 by omega, hs.1, Option.bind_some, if_pos ⟨by omega, by omega, by omega⟩]
    have c1 : lcut (ser t) 0 ((ser a).length : Int) = ser a := by rw [e, List.append_assoc]; exact lcut_pre (ser a) _
    have c2 : lcut (ser t) ((ser a).length : Int) (((ser t).length - 1 : Nat) : Int) = ser b := by
      rw [show (ser t).length - 1 = (ser a).length + (ser b).length by omega, e]; exact lcut_mid (ser a) (ser b) _
    rw [c1, c2, (clone_eq (ser a) (by omega)).1, Option.bind_some, if_pos ⟨by omega, by omega, by omega⟩, (clone_eq (ser b) (by omega)).1]; rfl
  cases t with
  | non => rfl
  | one s => rfl
  | cat a b =>
    show (if tk 2 = 1 then _ else if tk 2 = 2 then _ else _) = _
    rw [if_neg (by decide), if_pos (by decide)]
    exact two 2 a b ht.1 ht.2 rfl
  | alt a b =>
    show (if tk 3 = 1 then _ else if tk 3 = 2 then _ else _) = _
    rw [if_neg (by decide), if_pos (by decide)]
    exact two 3 a b ht.1 ht.2 rfl
  | un k a =>
    have hk : tk k = 1 := by
      have : k = 4 ∨ k = 5 ∨ k = 6 := by have := ht.1; have := ht.2.1; omega
      rcases this with rfl | rfl | rfl <;> rfl
    show (if tk k = 1 then _ else if tk k = 2 then _ else _) = _
    have hlen : (ser (.un k a)).length - 1 = (ser a).length := by simp [ser]
    have hlen2 : (ser (.un k a)).length = (ser a).length + 1 := by simp [ser]
    rw [if_pos hk, hlen, if_pos ⟨by omega, by omega, by omega⟩]
    have c1 : lcut (ser (.un k a)) 0 ((ser a).length : Int) = ser a := lcut_pre (ser a) _
    rw [c1, (clone_eq (ser a) (by omega)).2]; rfl
theorem rparts_eq {t : Rx} (ht : ROK t) (hz : (ser t).length ≤ 100000) : bosketref04_Parts KK (ser t) = some (parts t) := by
  have hp := ser_pos t
  have hx := last_ix hz
  unfold bosketref04_Parts
  rw [hx, if_pos ⟨by omega, by omega⟩, last_get, rtakes_eq, Option.bind_some]
  have stop : ∀ (f : Nat) (acc : List (List S40)) (x : Int), bosketref04_Parts_l1 KK (ser t) (f + 1) acc x 0 = some acc := by
    intro f acc x
    rw [bosketref04_Parts_l1.eq_2, if_neg (by omega), bosketref04_Parts_c0]
  have go : ∀ (f : Nat) (acc : List (List S40)) (n : Int) (pre post : List S40) (a : Rx), ROK a → ser t = pre ++ ser a ++ post → acc.length ≤ 10 → 0 < n → n ≤ 2 →
      bosketref04_Parts_l1 KK (ser t) (f + 1) acc ((pre.length + (ser a).length : Nat) : Int) n = bosketref04_Parts_l1 KK (ser t) f ([ser a] ++ acc) (pre.length : Int) (n - 1) := by
    intro f acc n pre post a ha e hl h0 h2
    have hlen : (ser t).length = pre.length + (ser a).length + post.length := by rw [e]; simp; omega
    have hla := ser_pos a
    have hs := start_eq (p0 := ser t) hz ha e
    have c2 : lcut (ser t) (pre.length : Int) ((pre.length + (ser a).length : Nat) : Int) = ser a := by rw [e]; exact lcut_mid pre (ser a) _
    rw [bosketref04_Parts_l1.eq_2, if_pos h0, w6 (x := ((pre.length + (ser a).length : Nat) : Int) - 1) (by omega) (by omega), show ((pre.length + (ser a).length : Nat) : Int) - 1 = (pre.length : Int) + (ser a).length - 1 by omega, hs.2, Option.bind_some, if_pos ⟨by omega, by omega, by omega⟩, c2, if_pos (by simp; omega), w6 (x := n - 1) (by omega) (by omega)]
  have two : ∀ (k : Int) (a b : Rx), ROK a → ROK b → ser t = ser a ++ ser b ++ [S40.mk k VZ] → bosketref04_Parts_l1 KK (ser t) KK [] (((ser t).length - 1 : Nat) : Int) 2 = some [ser a, ser b] := by
    intro k a b ha hb e
    have hlen : (ser t).length - 1 = (ser a).length + (ser b).length := by rw [e]; simp
    rw [hlen]
    have g1 := go 199999 [] 2 (ser a) [S40.mk k VZ] b hb (by rw [e]) (by simp) (by omega) (by omega)
    have g2 := go 199998 [ser b] (2 - 1) [] (ser b ++ [S40.mk k VZ]) a ha (by rw [e]; simp) (by simp) (by omega) (by omega)
    refine g1.trans ?_
    rw [List.append_nil]
    have i0 : ((([] : List S40).length + (ser a).length : Nat) : Int) = ((ser a).length : Int) := by simp
    rw [i0] at g2
    refine g2.trans ?_
    exact stop 199997 _ _
  cases t with
  | non => exact stop 199999 _ _
  | one s => exact stop 199999 _ _
  | cat a b => exact two 2 a b ht.1 ht.2 rfl
  | alt a b => exact two 3 a b ht.1 ht.2 rfl
  | un k a =>
    have hk : tk k = 1 := by
      have : k = 4 ∨ k = 5 ∨ k = 6 := by have := ht.1; have := ht.2.1; omega
      rcases this with rfl | rfl | rfl <;> rfl
    show bosketref04_Parts_l1 KK (ser (.un k a)) KK [] (((ser (.un k a)).length - 1 : Nat) : Int) (tk k) = _
    have hlen : (ser (.un k a)).length - 1 = ([] : List S40).length + (ser a).length := by simp [ser]
    rw [hk, hlen]
    refine (go 199999 [] 1 [] [S40.mk k VZ] a ht.2.2 (by simp [ser]) (by simp) (by omega) (by omega)).trans ?_
    exact stop 199998 _ _
end Go.Avl.TE
/- Regular expressions: joined again, compared, begun, their sets. -/
namespace Go.Avl.TE
open Go Go.RowKit Go.Proofs Go.Avl
set_option linter.all false
set_option maxRecDepth 10000

theorem join2_l (f : Nat) (k : Int) (a b : List S40) (h : a.length + b.length ≤ 1000000) : rex_Join_l1 KK k [a, b] (f + 1 + 1 + 1) [] 0 = some (a ++ b ++ [S40.mk k VZ]) := by
  have g : (([a, b] : List (List S40)).length : Int) = 2 := rfl
  rw [rex_Join_l1.eq_2, g, if_pos (by omega), if_pos (by omega), show lget [a, b] (0 : Int) = a from rfl, if_pos (by simp; omega), show w64 (0 + 1) = (1 : Int) from w6 (by omega) (by omega)]
  rw [rex_Join_l1.eq_2, g, if_pos (by omega), if_pos (by omega), show lget [a, b] (1 : Int) = b from rfl, if_pos (by simp; omega), show w64 (1 + 1) = (2 : Int) from w6 (by omega) (by omega)]
  rw [rex_Join_l1.eq_2, g, if_neg (by omega), rex_Join_c0, if_pos (by simp; omega), List.nil_append]; rfl
theorem join1_l (f : Nat) (k : Int) (a : List S40) (h : a.length ≤ 1000000) : rex_Join_l1 KK k [a] (f + 1 + 1) [] 0 = some (a ++ [S40.mk k VZ]) := by
  have g : (([a] : List (List S40)).length : Int) = 1 := rfl
  rw [rex_Join_l1.eq_2, g, if_pos (by omega), if_pos (by omega), show lget [a] (0 : Int) = a from rfl, if_pos (by simp; omega), show w64 (0 + 1) = (1 : Int) from w6 (by omega) (by omega)]
  rw [rex_Join_l1.eq_2, g, if_neg (by omega), rex_Join_c0, if_pos (by simp; omega), List.nil_append]; rfl
theorem join2 (k : Int) (hk : k = 2 ∨ k = 3) (a b : List S40) (h : a.length + b.length ≤ 1000000) : rex_Join KK k [a, b] = some (a ++ b ++ [S40.mk k VZ]) := by
  have ht : tk k = 2 := by rcases hk with rfl | rfl <;> rfl
  have g : (([a, b] : List (List S40)).length : Int) = 2 := rfl
  unfold rex_Join
  rw [takes_eq, Option.bind_some, ht, g, if_neg (by decide), Option.bind_some, if_neg (by decide)]
  exact join2_l 199997 k a b h
theorem join1 (k : Int) (hk : k = 4 ∨ k = 5 ∨ k = 6) (a : List S40) (h : a.length ≤ 1000000) : rex_Join KK k [a] = some (a ++ [S40.mk k VZ]) := by
  have ht : tk k = 1 := by rcases hk with rfl | rfl | rfl <;> rfl
  have g : (([a] : List (List S40)).length : Int) = 1 := rfl
  unfold rex_Join
  rw [takes_eq, Option.bind_some, ht, g, if_neg (by decide), Option.bind_some, if_neg (by decide)]
  exact join1_l 199998 k a h
theorem same_l2 (l : List S40) (hz : l.length ≤ 1000) : ∀ (k i fuel : Nat), i + k = l.length → k < fuel → slices_Equal_api_Regex_api_Piece__l1 KK l l fuel (i : Int) = some true
  | 0, i, f + 1, hi, _ => by rw [slices_Equal_api_Regex_api_Piece__l1.eq_2, if_neg (by omega)]; rfl
  | k + 1, i, f + 1, hi, hf => by
    have ih := same_l2 l hz k (i + 1) f (by omega) (by omega)
    rw [slices_Equal_api_Regex_api_Piece__l1.eq_2, if_pos (by omega), if_pos ⟨by omega, by omega⟩, if_pos ⟨by omega, by omega⟩, if_neg (by simp), w6 (by omega) (by omega)]
    exact_mod_cast ih
theorem rsame_self (l : List S40) (hz : l.length ≤ 1000) : rex_Same KK l l = some true := by
  unfold rex_Same slices_Equal_api_Regex_api_Piece_
  rw [if_neg (by simp)]
  have := same_l2 l hz l.length 0 KK (by omega) (by show _ < 200000; omega)
  rw [Int.natCast_zero] at this
  rw [this]; rfl
theorem bsame_l (l : List S40) (hz : l.length ≤ 1000) : ∀ (k i fuel : Nat), i + k = l.length → k < fuel → bosketref04_Same_l1 KK l l fuel (i : Int) = some true
  | 0, i, f + 1, hi, _ => by rw [bosketref04_Same_l1.eq_2, if_neg (by omega)]; rfl
  | k + 1, i, f + 1, hi, hf => by
    have ih := bsame_l l hz k (i + 1) f (by omega) (by omega)
    rw [bosketref04_Same_l1.eq_2, if_pos (by omega), if_pos ⟨by omega, by omega⟩, if_pos ⟨by omega, by omega⟩, if_neg (by simp), w6 (by omega) (by omega)]
    exact_mod_cast ih
theorem bsame_self (l : List S40) (hz : l.length ≤ 1000) : bosketref04_Same KK l l = some true := by
  unfold bosketref04_Same
  rw [if_neg (by simp)]
  have := bsame_l l hz l.length 0 KK (by omega) (by show _ < 200000; omega)
  rw [Int.natCast_zero] at this
  exact this
end Go.Avl.TE
/- Texts as lists of bytes; how the reader looks at them. -/
namespace Go.Avl.TE
open Go Go.RowKit Go.Proofs Go.Avl
set_option linter.all false
set_option maxRecDepth 10000

abbrev B (l : List Int) : ByteArray := strOfNums l
def By (l : List Int) : Prop := ∀ x ∈ l, 0 ≤ x ∧ x ≤ 255
theorem By.app {l m : List Int} (h : By l) (k : By m) : By (l ++ m) := fun x hx => (List.mem_append.1 hx).elim (h x) (k x)
theorem By.snd {l m : List Int} (h : By (l ++ m)) : By m := fun x hx => h x (List.mem_append.2 (.inr hx))
theorem By.drop {l : List Int} (h : By l) (n : Nat) : By (l.drop n) := fun x hx => h x (List.mem_of_mem_drop hx)
theorem By.cons {a : Int} {l : List Int} (h : 0 ≤ a ∧ a ≤ 255) (k : By l) : By (a :: l) := fun x hx => by
  rcases List.mem_cons.1 hx with rfl | hx
  · exact h
  · exact k x hx
theorem By.nil : By [] := fun x hx => by cases hx
theorem B_app (l m : List Int) : B (l ++ m) = B l ++ B m := by apply ByteArray.ext; apply Array.ext'; simp [strOfNums]
theorem B_size (l : List Int) : (B l).size = l.length := strOfNums_size l
theorem B_get {l : List Int} (h : By l) {i : Nat} {x : Int} (hx : l[i]? = some x) : byteAt (B l) (i : Int) = x := by
  have hi := (List.getElem?_eq_some_iff.1 hx).1
  rw [byteAt_strOf l h i hi]
  rw [List.getElem?_eq_getElem hi] at hx
  exact Option.some.inj hx
theorem byteAt_ints (s : ByteArray) (i : Nat) (hi : i < s.size) : byteAt s (i : Int) = (ints s)[i]'(by rw [ints_length]; exact hi) := by
  unfold byteAt ints
  rw [dif_pos (show (i : Int).toNat < s.size by omega), List.getElem_map]
  rfl
/-- The reader at a place of a text. -/
def st (l : List Int) (n : Nat) (d : Int) : S49 := S49.mk (B l) (n : Int) d
theorem eat_eq {l : List Int} (h : By l) (hz : l.length ≤ 100000) (n : Nat) (d c : Int) : rex_reader_eat KK (st l n d) c = some (if l[n]? = some c then (true, st l (n + 1) d) else (false, st l n d)) := by
  unfold rex_reader_eat st
  dsimp only
  rw [B_size]
  by_cases q : n < l.length
  · rw [if_pos (by omega), if_pos ⟨by omega, by omega⟩, Option.bind_some, B_get h (List.getElem?_eq_getElem q), List.getElem?_eq_getElem q]
    by_cases e : l[n] = c
    · rw [decide_eq_true e, if_pos rfl, if_pos (by rw [e]), w6 (by omega) (by omega)]; rfl
    · rw [decide_eq_false e, if_neg (by decide), if_neg (by simpa using e)]
  · rw [if_neg (by omega), Option.bind_some, if_neg (by decide), List.getElem?_eq_none (by omega), if_neg (by simp)]
theorem eat_yes {l : List Int} (h : By l) (hz : l.length ≤ 100000) {n : Nat} {d c : Int} (e : l[n]? = some c) : rex_reader_eat KK (st l n d) c = some (true, st l (n + 1) d) := by rw [eat_eq h hz, if_pos e]
theorem eat_no {l : List Int} (h : By l) (hz : l.length ≤ 100000) {n : Nat} {d c : Int} (e : l[n]? ≠ some c) : rex_reader_eat KK (st l n d) c = some (false, st l n d) := by rw [eat_eq h hz, if_neg e]
theorem end_l {l : List Int} (h : By l) (n : Nat) (d : Int) {x : Int} (hx : l[n]? = some x) (p1 : ByteArray) (hp : p1.size ≤ 1000) : ∀ (m i fuel : Nat), i + m = p1.size → m < fuel → rex_reader_end_l1 KK (st l n d) p1 fuel (i : Int) = some (decide (x ∈ (ints p1).drop i))
  | 0, i, f + 1, hi, _ => by
    rw [rex_reader_end_l1.eq_2, if_neg (by omega), rex_reader_end_c0, List.drop_of_length_le (by rw [ints_length]; omega)]; simp
  | m + 1, i, f + 1, hi, hf => by
    have hn := (List.getElem?_eq_some_iff.1 hx).1
    have hi' : i < (ints p1).length := by rw [ints_length]; omega
    have ih := end_l h n d hx p1 hp m (i + 1) f (by omega) (by omega)
    rw [rex_reader_end_l1.eq_2, if_pos (by omega), if_pos ⟨by show (0 : Int) ≤ (n : Int); omega, by show (n : Int) < ((B l).size : Int); rw [B_size]; omega⟩, if_pos ⟨by omega, by omega⟩, show byteAt (st l n d).f0 (st l n d).f1 = x from B_get h hx, byteAt_ints p1 i (by omega), List.drop_eq_getElem_cons hi']
    by_cases e : x = (ints p1)[i]
    · rw [if_pos e, decide_eq_true (by rw [e]; exact List.mem_cons_self)]
    · rw [if_neg e, w6 (by omega) (by omega), show ((i : Int) + 1) = ((i + 1 : Nat) : Int) by omega, ih]
      congr 1
      rw [decide_eq_decide, List.mem_cons]
      exact ⟨.inr, fun k => k.elim (fun k => absurd k e) id⟩
theorem end_some {l : List Int} (h : By l) {n : Nat} {d : Int} {x : Int} (hx : l[n]? = some x) (p1 : ByteArray) (hp : p1.size ≤ 1000) : rex_reader_end KK (st l n d) p1 = some (decide (x ∈ ints p1)) := by
  have hn := (List.getElem?_eq_some_iff.1 hx).1
  unfold rex_reader_end
  rw [if_neg (by show ¬ ((B l).size : Int) ≤ (n : Int); rw [B_size]; omega)]
  have := end_l h n d hx p1 hp p1.size 0 KK (by omega) (by show p1.size < 200000; omega)
  rw [List.drop_zero] at this
  exact this
theorem end_none {l : List Int} {n : Nat} {d : Int} (hx : l.length ≤ n) (p1 : ByteArray) : rex_reader_end KK (st l n d) p1 = some true := by
  unfold rex_reader_end
  rw [if_pos (by show ((B l).size : Int) ≤ (n : Int); rw [B_size]; omega)]
/-! Bytes in texts. -/
def hx (n : Int) : Int := if n < 10 then 48 + n else 87 + n
def eb (ot : List Int) (c : Int) : List Int :=
  if c = 10 then [92, 110] else if c = 9 then [92, 116] else if c = 13 then [92, 114] else if c < 32 ∨ 126 < c then [92, 120, hx (c / 16), hx (c % 16)] else if c = 92 then [92, 92] else if c ∈ ot then [92, c] else [c]
def OUT : List Int := [47, 40, 41, 91, 93, 124, 42, 43, 63, 46, 34, 126]
def INS : List Int := [47, 93, 94, 45, 34]
theorem ebo : ∀ c : Fin 256, escape_Byte KK (c.val : Int) (ByteArray.mk #[47, 40, 41, 91, 93, 124, 42, 43, 63, 46, 34, 126]) = some (B (eb OUT (c.val : Int))) ∧ bosketref03_Byte KK (c.val : Int) (ByteArray.mk #[47, 40, 41, 91, 93, 124, 42, 43, 63, 46, 34, 126]) = some (B (eb OUT (c.val : Int))) := by decide +kernel
theorem ebi : ∀ c : Fin 256, escape_Byte KK (c.val : Int) (ByteArray.mk #[47, 93, 94, 45, 34]) = some (B (eb INS (c.val : Int))) ∧ bosketref03_Byte KK (c.val : Int) (ByteArray.mk #[47, 93, 94, 45, 34]) = some (B (eb INS (c.val : Int))) := by decide +kernel
theorem ebo_eq {c : Int} (h : 0 ≤ c ∧ c < 256) : escape_Byte KK c (ByteArray.mk #[47, 40, 41, 91, 93, 124, 42, 43, 63, 46, 34, 126]) = some (B (eb OUT c)) ∧ bosketref03_Byte KK c (ByteArray.mk #[47, 40, 41, 91, 93, 124, 42, 43, 63, 46, 34, 126]) = some (B (eb OUT c)) := by
  have := ebo ⟨c.toNat, by omega⟩
  rwa [show ((⟨c.toNat, by omega⟩ : Fin 256).val : Int) = c from Int.toNat_of_nonneg h.1] at this
theorem ebi_eq {c : Int} (h : 0 ≤ c ∧ c < 256) : escape_Byte KK c (ByteArray.mk #[47, 93, 94, 45, 34]) = some (B (eb INS c)) ∧ bosketref03_Byte KK c (ByteArray.mk #[47, 93, 94, 45, 34]) = some (B (eb INS c)) := by
  have := ebi ⟨c.toNat, by omega⟩
  rwa [show ((⟨c.toNat, by omega⟩ : Fin 256).val : Int) = c from Int.toNat_of_nonneg h.1] at this
theorem hx_by {n : Int} (h : 0 ≤ n ∧ n < 16) : 48 ≤ hx n ∧ hx n ≤ 102 := by unfold hx; split <;> omega
theorem eb_by {ot : List Int} {c : Int} (h : 0 ≤ c ∧ c < 256) : By (eb ot c) := by
  have two : ∀ a b : Int, 0 ≤ a ∧ a ≤ 255 → 0 ≤ b ∧ b ≤ 255 → By [a, b] := fun a b h1 h2 => .cons h1 (.cons h2 .nil)
  unfold eb
  by_cases a : c = 10
  · rw [if_pos a]; exact two _ _ (by omega) (by omega)
  rw [if_neg a]
  by_cases a : c = 9
  · rw [if_pos a]; exact two _ _ (by omega) (by omega)
  rw [if_neg a]
  by_cases a : c = 13
  · rw [if_pos a]; exact two _ _ (by omega) (by omega)
  rw [if_neg a]
  by_cases a : c < 32 ∨ 126 < c
  · rw [if_pos a]
    have h1 := hx_by (n := c / 16) (by omega)
    have h2 := hx_by (n := c % 16) (by omega)
    exact .cons (by omega) (.cons (by omega) (two _ _ (by omega) (by omega)))
  rw [if_neg a]
  by_cases a : c = 92
  · rw [if_pos a]; exact two _ _ (by omega) (by omega)
  rw [if_neg a]
  by_cases a : c ∈ ot
  · rw [if_pos a]; exact two _ _ (by omega) (by omega)
  · rw [if_neg a]; exact .cons (by omega) .nil
/-! Reading back. -/
theorem B_ne {a : Int} {r : List Int} : B (a :: r) ≠ ByteArray.mk #[] := fun e => by
  have := congrArg ByteArray.size e
  rw [B_size, show (ByteArray.mk #[]).size = 0 from rfl] at this
  simp at this
theorem eb_ne (ot : List Int) (c : Int) : eb ot c ≠ [] := by
  unfold eb
  repeat' split
  all_goals simp
theorem read_raw {a : Int} {r : List Int} (h : By (a :: r)) (ha : a ≠ 92) : escape_Read KK (B (a :: r)) = some (a, 1, true) := by
  have e0 : byteAt (B (a :: r)) 0 = a := B_get h (i := 0) rfl
  unfold escape_Read
  rw [if_neg B_ne, B_size, if_pos ⟨by omega, by simp <;> omega⟩, e0, if_pos ha, if_pos ⟨by omega, by simp <;> omega⟩]
theorem read_two {c : Int} {r : List Int} (h : By (92 :: c :: r)) (hc : c = 110 ∨ c = 116 ∨ c = 114 ∨ c = 92 ∨ c ∈ OUT ∨ c ∈ INS) : escape_Read KK (B (92 :: c :: r)) = some (if c = 110 then 10 else if c = 116 then 9 else if c = 114 then 13 else c, 2, true) := by
  have e0 : byteAt (B (92 :: c :: r)) 0 = 92 := B_get h (i := 0) rfl
  have e1 : byteAt (B (92 :: c :: r)) 1 = c := B_get h (i := 1) rfl
  unfold escape_Read
  rw [if_neg B_ne, B_size, if_pos ⟨by omega, by simp <;> omega⟩, e0, if_neg (by decide), if_neg (by simp <;> omega), if_pos ⟨by omega, by simp <;> omega⟩, e1]
  unfold escape_Read_c0
  rw [e1]
  simp only [OUT, INS, List.mem_cons, List.not_mem_nil, or_false] at hc
  rcases hc with rfl | rfl | rfl | rfl | (rfl | rfl | rfl | rfl | rfl | rfl | rfl | rfl | rfl | rfl | rfl | rfl) | (rfl | rfl | rfl | rfl | rfl) <;> rfl
theorem val_hx : ∀ n : Fin 16, escape_value KK (hx (n.val : Int)) = some (n.val : Int) := by decide +kernel
theorem val_eq {n : Int} (h : 0 ≤ n ∧ n < 16) : escape_value KK (hx n) = some n := by
  have := val_hx ⟨n.toNat, by omega⟩
  rwa [show ((⟨n.toNat, by omega⟩ : Fin 16).val : Int) = n from Int.toNat_of_nonneg h.1] at this
theorem hl_back : ∀ n : Fin 256, w8 (bits .or .i64 (IntKind.i64.wrap (((n.val : Int) / 16) * 2 ^ (min (4 : Int).toNat IntKind.i64.bits))) ((n.val : Int) % 16)) = (n.val : Int) := by decide +kernel
theorem hl_eq {n : Int} (h : 0 ≤ n ∧ n < 256) : w8 (bits .or .i64 (IntKind.i64.wrap ((n / 16) * 2 ^ (min (4 : Int).toNat IntKind.i64.bits))) (n % 16)) = n := by
  have := hl_back ⟨n.toNat, by omega⟩
  rwa [show ((⟨n.toNat, by omega⟩ : Fin 256).val : Int) = n from Int.toNat_of_nonneg h.1] at this
theorem read_hex {c : Int} {r : List Int} (h0 : 0 ≤ c ∧ c < 256) (h : By (92 :: 120 :: hx (c / 16) :: hx (c % 16) :: r)) : escape_Read KK (B (92 :: 120 :: hx (c / 16) :: hx (c % 16) :: r)) = some (c, 4, true) := by
  have e0 : byteAt (B (92 :: 120 :: hx (c / 16) :: hx (c % 16) :: r)) 0 = 92 := B_get h (i := 0) rfl
  have e1 : byteAt (B (92 :: 120 :: hx (c / 16) :: hx (c % 16) :: r)) 1 = 120 := B_get h (i := 1) rfl
  have e2 : byteAt (B (92 :: 120 :: hx (c / 16) :: hx (c % 16) :: r)) 2 = hx (c / 16) := B_get h (i := 2) rfl
  have e3 : byteAt (B (92 :: 120 :: hx (c / 16) :: hx (c % 16) :: r)) 3 = hx (c % 16) := B_get h (i := 3) rfl
  unfold escape_Read
  rw [if_neg B_ne, B_size, if_pos ⟨by omega, by simp <;> omega⟩, e0, if_neg (by decide), if_neg (by simp <;> omega), if_pos ⟨by omega, by simp <;> omega⟩, e1, if_neg (by decide), if_neg (by decide), if_neg (by decide), if_pos rfl]
  unfold escape_Read_c2
  rw [B_size, if_pos (by simp <;> omega), if_pos ⟨by omega, by simp <;> omega⟩, e2, val_eq ⟨by omega, by omega⟩, Option.bind_some, if_pos (by omega), if_pos ⟨by omega, by simp <;> omega⟩, e3, val_eq ⟨by omega, by omega⟩, Option.bind_some, decide_eq_true (by omega), Option.bind_some, if_pos rfl, if_pos ⟨by omega, by simp <;> omega⟩, Option.bind_some, if_pos ⟨by omega, by simp <;> omega⟩, Option.bind_some, hl_eq h0]
theorem read_eb {ot : List Int} (ho : ot = OUT ∨ ot = INS) {c : Int} (hc : 0 ≤ c ∧ c < 256) {r : List Int} (hr : By r) : escape_Read KK (B (eb ot c ++ r)) = some (c, ((eb ot c).length : Int), true) := by
  have hb : By (eb ot c ++ r) := (eb_by hc).app hr
  unfold eb at hb ⊢
  by_cases a : c = 10
  · rw [if_pos a] at hb ⊢; rw [a]; exact read_two hb (.inl rfl)
  rw [if_neg a] at hb ⊢
  by_cases a : c = 9
  · rw [if_pos a] at hb ⊢; rw [a]; exact read_two hb (.inr (.inl rfl))
  rw [if_neg a] at hb ⊢
  by_cases a : c = 13
  · rw [if_pos a] at hb ⊢; rw [a]; exact read_two hb (.inr (.inr (.inl rfl)))
  rw [if_neg a] at hb ⊢
  by_cases a : c < 32 ∨ 126 < c
  · rw [if_pos a] at hb ⊢; exact read_hex hc hb
  rw [if_neg a] at hb ⊢
  by_cases a : c = 92
  · rw [if_pos a] at hb ⊢; rw [a]; exact read_two hb (.inr (.inr (.inr (.inl rfl))))
  rw [if_neg a] at hb ⊢
  by_cases b : c ∈ ot
  · rw [if_pos b] at hb ⊢
    have := read_two hb (.inr (.inr (.inr (.inr (ho.elim (fun e => .inl (e ▸ b)) (fun e => .inr (e ▸ b)))))))
    have hne : c ≠ 110 ∧ c ≠ 116 ∧ c ≠ 114 := by
      refine ⟨?_, ?_, ?_⟩ <;> (intro e; subst e; rcases ho with rfl | rfl <;> exact absurd b (by decide))
    rw [if_neg hne.1, if_neg hne.2.1, if_neg hne.2.2] at this
    exact this
  · rw [if_neg b] at hb ⊢; exact read_raw hb a
/-- The byte that is read. -/
theorem byte_eq {ot : List Int} (ho : ot = OUT ∨ ot = INS) {c : Int} (hc : 0 ≤ c ∧ c < 256) {l : List Int} (hl : By l) (hz : l.length ≤ 100000) {n : Nat} {r : List Int} (e : l.drop n = eb ot c ++ r) (d : Int) : rex_reader_byte KK (st l n d) = some (c, true, st l (n + (eb ot c).length) d) := by
  have hn : n ≤ l.length := by
    by_cases q : n ≤ l.length
    · exact q
    · rw [List.drop_of_length_le (by omega)] at e
      exact absurd (List.append_eq_nil_iff.1 e.symm).1 (eb_ne ot c)
  have hr : By r := by have := hl.drop n; rw [e] at this; exact this.snd
  have ex : (B l).extract n (B l).size = B (eb ot c ++ r) := by
    rw [← e]
    have := extract_right (B (l.take n)) (B (l.drop n))
    rw [← B_app, List.take_append_drop, B_size (l.take n), List.length_take, Nat.min_eq_left hn] at this
    exact this
  have hlen : (eb ot c).length + r.length = l.length - n := by
    have := congrArg List.length e
    simpa using this.symm
  unfold rex_reader_byte
  show (if 0 ≤ (n : Int) ∧ (n : Int) ≤ ((B l).size : Int) ∧ ((B l).size : Int) ≤ ((B l).size : Int) then (escape_Read KK ((B l).extract (n : Int).toNat ((B l).size : Int).toNat)).bind fun t3 => some (t3.1, t3.2.2, (S49.mk (B l) (w64 ((n : Int) + t3.2.1)) d)) else none) = _
  rw [Int.toNat_natCast, Int.toNat_natCast, ex, read_eb ho hc hr, Option.bind_some, if_pos ⟨by omega, by rw [B_size]; omega, Int.le_refl _⟩]
  dsimp only
  rw [w6 (by omega) (by omega)]; rfl
end Go.Avl.TE
/- Sets of bytes: made, joined; their bytes in order. -/
namespace Go.Avl.TE
open Go Go.RowKit Go.Proofs Go.Avl
set_option linter.all false
set_option maxRecDepth 10000

theorem or_l (p1 : Vector Int 4) (h1 : U p1) : ∀ (m i fuel : Nat) (a : Vector Int 4), i + m = 4 → m < fuel → U a →
    ∃ c, byteset_Or_l1 200000 p1 fuel a i = some c ∧ U c ∧ ∀ j : Nat, j < 4 → wd c j = if i ≤ j then wd a j ||| wd p1 j else wd a j
  | 0, i, f + 1, a, h, _, ha => by
    rw [byteset_Or_l1.eq_2, if_neg (by omega), byteset_Or_c0]
    exact ⟨a, rfl, ha, fun j hj => by rw [if_neg (by omega)]⟩
  | m + 1, i, f + 1, a, h, hf, ha => by
    have hi : i < 4 := by omega
    have g : 0 ≤ (i : Int) ∧ (i : Int) < 4 := ⟨by omega, by omega⟩
    obtain ⟨e1, l1⟩ := wd_eq ha i hi
    obtain ⟨e2, l2⟩ := wd_eq h1 i hi
    have ho : bits .or .u64 (vget a (i : Int)) (vget p1 (i : Int)) = ((wd a i ||| wd p1 i : Nat) : Int) := by rw [e1, e2, bits_or_u64_nat _ _ l1 l2]
    have hlt : wd a i ||| wd p1 i < 18446744073709551616 := Nat.or_lt_two_pow (n := 64) l1 l2
    have hU : U (vset a (i : Int) ((wd a i ||| wd p1 i : Nat) : Int)) := by
      intro j hj
      rw [vget_vset _ _ _ _ hi hj]
      split
      · omega
      · exact ha j hj
    obtain ⟨c, c1, c2, c3⟩ := or_l p1 h1 m (i + 1) f (vset a (i : Int) ((wd a i ||| wd p1 i : Nat) : Int)) (by omega) (by omega) hU
    rw [byteset_Or_l1.eq_2, if_pos g.2, if_pos g, if_pos g, if_pos g, ho, w64_id (by omega) (by omega)]
    refine ⟨c, by exact_mod_cast c1, c2, fun j hj => ?_⟩
    rw [c3 j hj]
    have hw : wd (vset a (i : Int) ((wd a i ||| wd p1 i : Nat) : Int)) j = if j = i then wd a i ||| wd p1 i else wd a j := by
      unfold wd
      rw [vget_vset _ _ _ _ hi hj]
      by_cases q : j = i
      · rw [if_pos q, if_pos q, Int.toNat_natCast]
      · rw [if_neg q, if_neg q]
    rw [hw]
    by_cases q : j = i
    · subst q; rw [if_neg (by omega), if_pos rfl, if_pos (by omega)]
    · rw [if_neg q]
      by_cases r : i + 1 ≤ j
      · rw [if_pos r, if_pos (by omega)]
      · rw [if_neg r, if_neg (by omega)]
theorem or_eq {a b : Vector Int 4} (ha : U a) (hb : U b) : ∃ c, byteset_Or 200000 a b = some c ∧ U c ∧ ∀ x, x < 256 → tb c x = (tb a x || tb b x) := by
  obtain ⟨c, c1, c2, c3⟩ := or_l b hb 4 0 200000 a (by omega) (by omega) ha
  refine ⟨c, c1, c2, fun x hx => ?_⟩
  unfold tb
  rw [c3 _ (by omega), if_pos (by omega), Nat.testBit_or]
theorem range_l (t : Nat) (ht : t < 256) : ∀ (m i fuel : Nat) (a : Vector Int 4), t + 1 - i = m → m < fuel → i ≤ 256 → U a →
    ∃ c, byteset_Range_l1 200000 (t : Int) fuel a i = some c ∧ U c ∧ ∀ x, x < 256 → tb c x = (tb a x || decide (i ≤ x ∧ x ≤ t))
  | 0, i, f + 1, a, h, _, hi, ha => by
    rw [byteset_Range_l1.eq_2, w64_id (n := (t : Int)) (by omega) (by omega), if_neg (by omega), byteset_Range_c0]
    exact ⟨a, rfl, ha, fun x hx => by rw [decide_eq_false (by omega), Bool.or_false]⟩
  | m + 1, i, f + 1, a, h, hf, hi, ha => by
    have hib : i < 256 := by omega
    have e1 : IntKind.i64.wrap ((i : Int).tdiv 64) = ((i / 64 : Nat) : Int) := by
      have h1 : (i : Int).tdiv 64 = ((i / 64 : Nat) : Int) := by rw [Int.tdiv_eq_ediv_of_nonneg (by omega)]; omega
      rw [h1]; have := w64_id (n := ((i / 64 : Nat) : Int)) (by omega) (by omega); exact this
    have e2 : u64 ((i : Int).tmod 64) = ((i % 64 : Nat) : Int) := by
      have h1 : (i : Int).tmod 64 = ((i % 64 : Nat) : Int) := by rw [Int.tmod_eq_emod_of_nonneg (by omega)]; omega
      rw [h1, u64_eq]; omega
    have g : 0 ≤ ((i / 64 : Nat) : Int) ∧ ((i / 64 : Nat) : Int) < 4 := ⟨by omega, by omega⟩
    obtain ⟨p1, p2⟩ := put_bit ha hib _ rfl
    obtain ⟨c, c1, c2, c3⟩ := range_l t ht m (i + 1) f _ (by omega) (by omega) (by omega) p1
    rw [byteset_Range_l1.eq_2, w64_id (n := (t : Int)) (by omega) (by omega), if_pos (by omega), e1, e2, if_pos g, if_pos (by omega), if_pos g, Int.toNat_natCast, w64_id (by omega) (by omega)]
    refine ⟨c, by exact_mod_cast c1, c2, fun x hx => ?_⟩
    rw [c3 x hx, p2 x hx, Bool.or_assoc]
    congr 1
    rw [← Bool.decide_or, decide_eq_decide]; omega
theorem range_eq {f t : Nat} (hf : f < 256) (ht : t < 256) : ∃ c, byteset_Range 200000 (f : Int) (t : Int) = some c ∧ U c ∧ ∀ x, x < 256 → tb c x = decide (f ≤ x ∧ x ≤ t) := by
  obtain ⟨c, c1, c2, c3⟩ := range_l t ht (t + 1 - f) f 200000 _ rfl (by omega) (by omega) U_zero
  unfold byteset_Range
  rw [w64_id (by omega) (by omega)]
  exact ⟨c, c1, c2, fun x hx => by rw [c3 x hx, tb_zero x hx, Bool.false_or]⟩
/-! The lowest bit. -/
theorem low_split {w : Nat} (hw : 0 < w) : ∃ t m, w = 2 ^ t * (2 * m + 1) := by
  induction w using Nat.strongRecOn with
  | _ w ih =>
    by_cases h : w % 2 = 1
    · exact ⟨0, w / 2, by simp; omega⟩
    · obtain ⟨t, m, e⟩ := ih (w / 2) (by omega) (by omega)
      refine ⟨t + 1, m, ?_⟩
      rw [Nat.pow_succ, Nat.mul_comm (2 ^ t) 2, Nat.mul_assoc, ← e]; omega
theorem low_bits {w t m : Nat} (e : w = 2 ^ t * (2 * m + 1)) (j : Nat) : w.testBit j = (if j < t then false else if j = t then true else (2 * m).testBit (j - t)) ∧ (w - 1).testBit j = (if j < t then true else if j = t then false else (2 * m).testBit (j - t)) := by
  have hp : 0 < 2 ^ t := Nat.two_pow_pos t
  have e1 : w = 2 ^ t * (2 * m + 1) + 0 := e
  have e2 : w - 1 = 2 ^ t * (2 * m) + (2 ^ t - 1) := by
    rw [e, Nat.mul_add, Nat.mul_one]; omega
  have hodd : ∀ i, (2 * m + 1).testBit i = if i = 0 then true else (2 * m).testBit i := by
    intro i
    cases i with
    | zero => simp [Nat.testBit_zero]
    | succ i => rw [if_neg (by omega), Nat.testBit_succ, Nat.testBit_succ]; congr 1; omega
  have heven : (2 * m).testBit 0 = false := by simp [Nat.testBit_zero]
  constructor
  · rw [e1, Nat.testBit_two_pow_mul_add _ hp]
    by_cases h : j < t
    · rw [if_pos h, if_pos h]; simp
    · rw [if_neg h, if_neg h, hodd]
      by_cases q : j = t
      · rw [if_pos q, if_pos (by omega)]
      · rw [if_neg q, if_neg (by omega)]
  · rw [e2, Nat.testBit_two_pow_mul_add _ (by omega)]
    by_cases h : j < t
    · rw [if_pos h, if_pos h, Nat.testBit_two_pow_sub_one]; exact decide_eq_true h
    · rw [if_neg h, if_neg h]
      by_cases q : j = t
      · rw [if_pos q, show j - t = 0 by omega, heven]
      · rw [if_neg q]
theorem tab_ok : ∀ t : Nat, t < 64 → lget tab0 (((2 ^ t * 285870213051353865 % 18446744073709551616 / 288230376151711744 : Nat)) : Int) = (t : Int) ∧ 2 ^ t * 285870213051353865 % 18446744073709551616 / 288230376151711744 < 64 := by decide +kernel
theorem p58 : ((2 : Int) ^ (min (58 : Int).toNat IntKind.u64.bits)) = 288230376151711744 := by
  show (2 : Int) ^ 58 = 288230376151711744
  simp
theorem tz_div (q : Nat) : Int.fdiv (u64 ((q : Int) * 285870213051353865)) (2 ^ (min (58 : Int).toNat IntKind.u64.bits)) = ((q * 285870213051353865 % 18446744073709551616 / 288230376151711744 : Nat) : Int) := by
  rw [p58, u64_eq, Int.fdiv_eq_ediv_of_nonneg _ (by omega)]
  omega
theorem t_lt {w t m : Nat} (hw : w < 18446744073709551616) (e : w = 2 ^ t * (2 * m + 1)) : t < 64 := by
  have hle : 2 ^ t ≤ w := by rw [e]; exact Nat.le_mul_of_pos_right _ (by omega)
  by_cases h : t < 64
  · exact h
  · have h0 : 2 ^ 64 ≤ 2 ^ t := Nat.pow_le_pow_right (by omega) (by omega)
    have h2 : (18446744073709551616 : Nat) ≤ 2 ^ t := h0
    exact absurd (Nat.lt_of_le_of_lt (Nat.le_trans h2 hle) hw) (Nat.lt_irrefl _)
theorem and_neg {w t m : Nat} (hw : w < 18446744073709551616) (e : w = 2 ^ t * (2 * m + 1)) : w &&& (18446744073709551616 - w) = 2 ^ t := by
  have ht := t_lt hw e
  have hpos : 0 < w := by rw [e]; exact Nat.mul_pos (Nat.two_pow_pos t) (by omega)
  apply Nat.eq_of_testBit_eq
  intro j
  have hs : 18446744073709551616 - w = 2 ^ 64 - ((w - 1) + 1) := by
    rw [Nat.sub_add_cancel hpos]
  have hb := Nat.testBit_two_pow_sub_succ (n := 64) (x := w - 1) (by
    show w - 1 < 18446744073709551616
    omega) j
  obtain ⟨b1, b2⟩ := low_bits e j
  rw [Nat.testBit_and, hs, hb, b1, b2, Nat.testBit_two_pow]
  by_cases h : j < t
  · rw [if_pos h, if_pos h, Bool.false_and, decide_eq_false (by omega)]
  · rw [if_neg h, if_neg h]
    by_cases q : j = t
    · rw [if_pos q, if_pos q, decide_eq_true (show j < 64 by omega), decide_eq_true (show t = j by omega)]; rfl
    · rw [if_neg q, if_neg q, decide_eq_false (show ¬ t = j by omega)]
      cases (2 * m).testBit (j - t) <;> simp
theorem tz_eq {w t m : Nat} (hw : w < 18446744073709551616) (e : w = 2 ^ t * (2 * m + 1)) : t < 64 ∧ math_bits_TrailingZeros64 200000 (w : Int) = some (t : Int) ∧ bits .and .u64 (w : Int) (u64 ((w : Int) - 1)) = ((w &&& (w - 1) : Nat) : Int) := by
  have ht := t_lt hw e
  have hpos : 0 < w := by rw [e]; exact Nat.mul_pos (Nat.two_pow_pos t) (by omega)
  have hand := and_neg hw e
  clear e
  have hneg : IntKind.u64.wrap (0 - (w : Int)) = ((18446744073709551616 - w : Nat) : Int) := by
    have := u64_eq (0 - (w : Int))
    unfold u64 at this
    rw [this]; omega
  have hb := bits_and_u64_nat w (18446744073709551616 - w) hw (by omega)
  rw [hand] at hb
  have e4 : u64 ((w : Int) - 1) = ((w - 1 : Nat) : Int) := by rw [u64_eq]; omega
  have hb2 := bits_and_u64_nat w (w - 1) hw (by omega)
  refine ⟨ht, ?_, by rw [e4, hb2]⟩
  have e3 := tz_div (2 ^ t)
  obtain ⟨k1, k2⟩ := tab_ok t ht
  have hw0 : ¬ (w : Int) = 0 := by omega
  unfold math_bits_TrailingZeros64
  rw [if_neg hw0, hneg, hb, e3]
  generalize (2 ^ t * 285870213051353865 % 18446744073709551616 / 288230376151711744 : Nat) = z at k1 k2 ⊢
  rw [if_pos ⟨by omega, by omega⟩, k1, Option.bind_some, w64_id (by omega) (by omega)]
end Go.Avl.TE
/- Sets of bytes: all, rising; their spans. -/
namespace Go.Avl.TE
open Go Go.RowKit Go.Proofs Go.Avl
set_option linter.all false
set_option maxRecDepth 10000

/-- The bits of a word, from one on, that so many places hold. -/
def bl (w : Nat) (i m : Nat) : List Nat := (List.range' i m).filter w.testBit
theorem bl_low {w t m : Nat} (e : w = 2 ^ t * (2 * m + 1)) (ht : t < 64) : bl w 0 64 = t :: bl (w &&& (w - 1)) 0 64 := by
  have hb := fun j => low_bits e j
  have hand : ∀ j, (w &&& (w - 1)).testBit j = if j ≤ t then false else w.testBit j := by
    intro j
    obtain ⟨b1, b2⟩ := hb j
    rw [Nat.testBit_and, b1, b2]
    by_cases h : j < t
    · rw [if_pos h, if_pos h, if_pos (by omega)]; rfl
    · rw [if_neg h, if_neg h]
      by_cases q : j = t
      · rw [if_pos q, if_pos q, if_pos (by omega)]; rfl
      · rw [if_neg q, if_neg q, if_neg (by omega)]; simp
  have hsplit : List.range' 0 64 = List.range' 0 t ++ (t :: List.range' (t + 1) (63 - t)) := by
    have h1 : List.range' 0 64 = List.range' 0 t ++ List.range' (0 + 1 * t) (64 - t) := by rw [List.range'_append]; congr 1; omega
    rw [h1, show 64 - t = (63 - t) + 1 by omega, List.range'_succ]
    simp
  unfold bl
  rw [hsplit, List.filter_append, List.filter_append]
  have f1 : (List.range' 0 t).filter w.testBit = [] := by
    rw [List.filter_eq_nil_iff]
    intro j hj
    have := List.mem_range'_1.1 hj
    rw [(hb j).1, if_pos (by omega)]; simp
  have f2 : (List.range' 0 t).filter (w &&& (w - 1)).testBit = [] := by
    rw [List.filter_eq_nil_iff]
    intro j hj
    have := List.mem_range'_1.1 hj
    rw [hand j, if_pos (by omega)]; simp
  have t1 : w.testBit t = true := by rw [(hb t).1, if_neg (by omega), if_pos rfl]
  have t2 : (w &&& (w - 1)).testBit t = false := by rw [hand t, if_pos (Nat.le_refl _)]
  rw [f1, f2, List.nil_append, List.nil_append, List.filter_cons_of_pos t1, List.filter_cons_of_neg (by rw [t2]; simp)]
  congr 1
  apply List.filter_congr
  intro j hj
  have := List.mem_range'_1.1 hj
  rw [hand j, if_neg (by omega)]
theorem bl_zero : bl 0 0 64 = [] := by decide
/-- A set's bytes that lie in one word. -/
def wl (w i : Nat) : List Int := (bl w 0 64).map fun t => ((64 * i + t : Nat) : Int)
theorem list_l2 (rec8 : List Int → Int → Option (List Int)) (i : Nat) (hi : i < 4) : ∀ (n w fuel : Nat) (acc : List Int), (bl w 0 64).length = n → n < fuel → w < 18446744073709551616 → acc.length + n ≤ 100000 →
    byteset_List_l2 200000 rec8 (i : Int) fuel acc (w : Int) = byteset_List_c1 200000 rec8 (i : Int) (acc ++ wl w i)
  | n, w, 0, acc, _, h, _, _ => by omega
  | n, w, f + 1, acc, hn, hf, hw, ha => by
    rw [byteset_List_l2.eq_2]
    by_cases z : w = 0
    · subst z
      rw [if_neg (by simp)]
      unfold wl
      rw [bl_zero, List.map_nil, List.append_nil]
    · obtain ⟨t, m, e⟩ := low_split (Nat.pos_of_ne_zero z)
      obtain ⟨ht, k1, k2⟩ := tz_eq hw e
      have hl := bl_low e ht
      have hlt : w &&& (w - 1) < 18446744073709551616 := Nat.lt_of_le_of_lt Nat.and_le_left hw
      rw [hl, List.length_cons] at hn
      have e1 : w8 (w64 (w64 ((64 : Int) * (i : Int)) + (t : Int))) = ((64 * i + t : Nat) : Int) := by
        rw [w64_id (n := (64 : Int) * (i : Int)) (by omega) (by omega), w64_id (by omega) (by omega), w8_id (by omega) (by omega)]; omega
      rw [if_pos (by omega), k1, Option.bind_some, e1, k2, if_pos (by simp; omega)]
      rw [list_l2 rec8 i hi (n - 1) (w &&& (w - 1)) f (acc ++ [((64 * i + t : Nat) : Int)]) (by omega) (by omega) hlt (by simp; omega)]
      unfold wl
      rw [hl, List.map_cons, List.append_assoc]; rfl
theorem bl_len (w : Nat) : (bl w 0 64).length ≤ 64 := by
  unfold bl
  exact Nat.le_trans (List.length_filter_le _ _) (by simp)
theorem wl_len (w i : Nat) : (wl w i).length ≤ 64 := by unfold wl; rw [List.length_map]; exact bl_len w
def al (a : Vector Int 4) : Nat → Nat → List Int
  | _, 0 => []
  | i, m + 1 => wl (wd a i) i ++ al a (i + 1) m
theorem list_l3 {a : Vector Int 4} (ha : U a) : ∀ (m i fuel : Nat) (acc : List Int), i + m = 4 → m < fuel → acc.length + 64 * m ≤ 10000 → byteset_List_l3 200000 a fuel acc i = some (acc ++ al a i m)
  | 0, i, f + 1, acc, h, _, _ => by
    rw [byteset_List_l3.eq_2, if_neg (by omega), byteset_List_c0, al, List.append_nil]
  | m + 1, i, f + 1, acc, h, hf, hz => by
    have hi : i < 4 := by omega
    obtain ⟨e, l⟩ := wd_eq ha i hi
    have hwl := wl_len (wd a i) i
    rw [byteset_List_l3.eq_2, if_pos (by omega), if_pos ⟨by omega, by omega⟩, e, list_l2 _ i hi _ _ 200000 acc rfl (by have := bl_len (wd a i); omega) l (by have := bl_len (wd a i); omega)]
    unfold byteset_List_c1
    rw [w64_id (by omega) (by omega)]
    have ih := list_l3 ha m (i + 1) f (acc ++ wl (wd a i) i) (by omega) (by omega) (by simp; omega)
    rw [al, ← List.append_assoc]
    exact_mod_cast ih
/-- A set's bytes, rising. -/
def ll (a : Vector Int 4) : List Int := al a 0 4
theorem list_eq {a : Vector Int 4} (ha : U a) : byteset_List 200000 a = some (ll a) := list_l3 ha 4 0 200000 [] (by omega) (by omega) (by simp)
theorem al_mem (a : Vector Int 4) : ∀ (m i : Nat) (x : Int), x ∈ al a i m ↔ ∃ j t : Nat, i ≤ j ∧ j < i + m ∧ t < 64 ∧ x = ((64 * j + t : Nat) : Int) ∧ (wd a j).testBit t = true
  | 0, i, x => by simp [al]; intro j t; omega
  | m + 1, i, x => by
    rw [al, List.mem_append, al_mem a m (i + 1) x]
    constructor
    · rintro (h | ⟨j, t, h1, h2, h3⟩)
      · unfold wl bl at h
        obtain ⟨t, ht, rfl⟩ := List.mem_map.1 h
        obtain ⟨h1, h2⟩ := List.mem_filter.1 ht
        have := List.mem_range'_1.1 h1
        exact ⟨i, t, Nat.le_refl _, by omega, by omega, rfl, h2⟩
      · exact ⟨j, t, by omega, by omega, h3⟩
    · rintro ⟨j, t, h1, h2, h3, h4, h5⟩
      by_cases q : j = i
      · left
        subst q
        unfold wl bl
        exact List.mem_map.2 ⟨t, List.mem_filter.2 ⟨List.mem_range'_1.2 ⟨by omega, by omega⟩, h5⟩, h4.symm⟩
      · exact .inr ⟨j, t, by omega, by omega, h3, h4, h5⟩
theorem ll_mem (a : Vector Int 4) (b : Nat) (hb : b < 256) : (b : Int) ∈ ll a ↔ tb a b = true := by
  unfold ll tb
  rw [al_mem]
  constructor
  · rintro ⟨j, t, _, h2, h3, h4, h5⟩
    have e : b = 64 * j + t := by omega
    rw [e, show (64 * j + t) / 64 = j by omega, show (64 * j + t) % 64 = t by omega]; exact h5
  · intro h
    exact ⟨b / 64, b % 64, by omega, by omega, by omega, by omega, h⟩
theorem ll_lt (a : Vector Int 4) : ∀ x ∈ ll a, 0 ≤ x ∧ x < 256 := by
  intro x hx
  obtain ⟨j, t, _, h2, h3, h4, _⟩ := (al_mem a 4 0 x).1 hx
  omega
theorem wl_sorted (w i : Nat) : (wl w i).Pairwise (· < ·) := by
  unfold wl bl
  rw [List.pairwise_map]
  refine List.Pairwise.filter _ ?_
  have := List.pairwise_lt_range' (s := 0) (n := 64) (step := 1) (by omega)
  exact this.imp fun h => by omega
theorem al_sorted (a : Vector Int 4) : ∀ (m i : Nat), (al a i m).Pairwise (· < ·)
  | 0, _ => List.Pairwise.nil
  | m + 1, i => by
    rw [al, List.pairwise_append]
    refine ⟨wl_sorted _ _, al_sorted a m (i + 1), fun x hx y hy => ?_⟩
    obtain ⟨j, t, h1, _, _, h4, _⟩ := (al_mem a m (i + 1) y).1 hy
    unfold wl bl at hx
    obtain ⟨u, hu, rfl⟩ := List.mem_map.1 hx
    have := List.mem_range'_1.1 (List.mem_filter.1 hu).1
    omega
theorem ll_sorted (a : Vector Int 4) : (ll a).Pairwise (· < ·) := al_sorted a 4 0
theorem ll_len (a : Vector Int 4) : (ll a).length ≤ 256 := by
  unfold ll
  simp only [al, List.length_append, List.length_nil, Nat.zero_add, Nat.reduceAdd]
  have := wl_len (wd a 0) 0; have := wl_len (wd a 1) 1; have := wl_len (wd a 2) 2; have := wl_len (wd a 3) 3
  omega
end Go.Avl.TE
/- Sets of bytes: the count of a word's bits. -/
namespace Go.Avl.TE
open Go Go.RowKit Go.Proofs Go.Avl
set_option linter.all false
set_option maxRecDepth 10000

def mk (c : Nat) : Nat → Nat
  | 0 => 0
  | n + 1 => c + 256 * mk c n
theorem and_split {a b x y : Nat} (ha : a < 256) (hb : b < 256) : (a + 256 * x) &&& (b + 256 * y) = (a &&& b) + 256 * (x &&& y) := by
  have h1 := Nat.and_mod_two_pow (a := a + 256 * x) (b := b + 256 * y) (n := 8)
  have h2 := Nat.and_div_two_pow (a := a + 256 * x) (b := b + 256 * y) (n := 8)
  rw [show (2 : Nat) ^ 8 = 256 from rfl] at h1 h2
  rw [show (a + 256 * x) % 256 = a by omega, show (b + 256 * y) % 256 = b by omega] at h1
  rw [show (a + 256 * x) / 256 = x by omega, show (b + 256 * y) / 256 = y by omega] at h2
  rw [← h1, ← h2]; omega
def s1 (n w : Nat) : Nat := ((w / 2) &&& mk 0x55 n) + (w &&& mk 0x55 n)
def s2 (n w : Nat) : Nat := ((w / 4) &&& mk 0x33 n) + (w &&& mk 0x33 n)
def s3 (n w : Nat) : Nat := (w / 16 + w) &&& mk 0x0f n
def g1 (b : Nat) : Nat := ((b / 2) &&& 0x55) + (b &&& 0x55)
def g2 (b : Nat) : Nat := ((b / 4) &&& 0x33) + (b &&& 0x33)
def g3 (b : Nat) : Nat := (b / 16 + b) &&& 0x0f
def p8 (b : Nat) : Nat := ((List.range' 0 8).filter b.testBit).length
theorem g1_ok : ∀ b : Nat, b < 256 → g1 b < 256 ∧ ∀ z : Nat, z < 2 → (b / 2 + 128 * z) &&& 0x55 = (b / 2) &&& 0x55 := by decide +kernel
theorem g2_ok : ∀ b : Nat, b < 256 → g2 b < 256 ∧ ∀ z : Nat, z < 4 → (b / 4 + 64 * z) &&& 0x33 = (b / 4) &&& 0x33 := by decide +kernel
theorem g3_ok : ∀ b : Nat, b < 256 → b / 16 ≤ 4 → ∀ z : Nat, z < 5 → (b / 16 + b + 16 * z) &&& 0x0f = (b / 16 + b) &&& 0x0f := by decide +kernel
theorem g_ok : ∀ b : Nat, b < 256 → g2 (g1 b) ≤ 68 ∧ g2 (g1 b) % 16 ≤ 4 ∧ g3 (g2 (g1 b)) = p8 b ∧ p8 b ≤ 8 := by decide +kernel
theorem s1_split (n : Nat) {b y : Nat} (hb : b < 256) : s1 (n + 1) (b + 256 * y) = g1 b + 256 * s1 n y := by
  obtain ⟨_, h⟩ := g1_ok b hb
  unfold s1 g1
  rw [mk, show (b + 256 * y) / 2 = (b / 2 + 128 * (y % 2)) + 256 * (y / 2) by omega, and_split (by omega) (by omega), and_split hb (by omega), h _ (by omega)]
  omega
theorem s2_split (n : Nat) {b y : Nat} (hb : b < 256) : s2 (n + 1) (b + 256 * y) = g2 b + 256 * s2 n y := by
  obtain ⟨_, h⟩ := g2_ok b hb
  unfold s2 g2
  rw [mk, show (b + 256 * y) / 4 = (b / 4 + 64 * (y % 4)) + 256 * (y / 4) by omega, and_split (by omega) (by omega), and_split hb (by omega), h _ (by omega)]
  omega
theorem s3_split (n : Nat) {b y : Nat} (hb : b ≤ 68) (hy : y % 16 ≤ 4) : s3 (n + 1) (b + 256 * y) = g3 b + 256 * s3 n y := by
  have h := g3_ok b (by omega) (by omega) (y % 16) (by omega)
  unfold s3 g3
  rw [mk, show (b + 256 * y) / 16 + (b + 256 * y) = (b / 16 + b + 16 * (y % 16)) + 256 * (y / 16 + y) by omega, and_split (by omega) (by omega), h]
def pc : Nat → Nat → Nat
  | 0, _ => 0
  | n + 1, w => p8 (w % 256) + 256 * pc n (w / 256)
theorem s2_low (n w : Nat) : s2 n (s1 n w) % 16 ≤ 4 := by
  cases n with
  | zero => unfold s2 s1; simp [mk]
  | succ n =>
    have e : w = w % 256 + 256 * (w / 256) := by omega
    obtain ⟨h1, h2, _⟩ := g_ok (w % 256) (by omega)
    obtain ⟨k1, _⟩ := g1_ok (w % 256) (by omega)
    rw [e, s1_split n (by omega), s2_split n k1]; omega
theorem pc_eq : ∀ (n w : Nat), s3 n (s2 n (s1 n w)) = pc n w
  | 0, w => by unfold s3; simp [mk, pc]
  | n + 1, w => by
    have e : w = w % 256 + 256 * (w / 256) := by omega
    obtain ⟨h1, h2, h3, _⟩ := g_ok (w % 256) (by omega)
    obtain ⟨k1, _⟩ := g1_ok (w % 256) (by omega)
    rw [e, s1_split n (by omega), s2_split n k1, s3_split n h1 (s2_low n _), pc_eq n, h3, pc, show (w % 256 + 256 * (w / 256)) % 256 = w % 256 by omega, show (w % 256 + 256 * (w / 256)) / 256 = w / 256 by omega]
def ps : Nat → Nat → Nat
  | 0, _ => 0
  | n + 1, w => p8 (w % 256) + ps n (w / 256)
theorem ps_eq : ∀ (n w : Nat), (bl w 0 (8 * n)).length = ps n w
  | 0, w => rfl
  | n + 1, w => by
    have e : List.range' 0 (8 * (n + 1)) = List.range' 0 8 ++ (List.range' 0 (8 * n)).map (8 + ·) := by
      rw [List.map_add_range', show 8 * (n + 1) = 8 + 8 * n by omega, ← List.range'_append]
    unfold bl
    rw [e, List.filter_append, List.length_append, List.filter_map, List.length_map, ps]
    congr 1
    · unfold p8
      congr 1
      apply List.filter_congr
      intro j hj
      have := List.mem_range'_1.1 hj
      have h := Nat.testBit_mod_two_pow w 8 j
      rw [show (2 : Nat) ^ 8 = 256 from rfl] at h
      rw [h, decide_eq_true (by omega), Bool.true_and]
    · rw [← ps_eq n (w / 256)]
      unfold bl
      congr 1
      apply List.filter_congr
      intro j hj
      have h := Nat.testBit_div_two_pow (n := 8) w j
      rw [show (2 : Nat) ^ 8 = 256 from rfl] at h
      rw [h, Nat.add_comm]; rfl
theorem p8_le (b : Nat) : p8 b ≤ 8 := by
  unfold p8
  exact Nat.le_trans (List.length_filter_le _ _) (by simp)
theorem bits_and_127 (x : Nat) (hx : x < 9223372036854775808) : bits .and .i64 (x : Int) 127 = ((x % 128 : Nat) : Int) := by
  have h1 : (BitVec.ofInt 64 (x : Int)).toNat = x := by
    rw [BitVec.ofInt_natCast, BitVec.toNat_ofNat]; exact Nat.mod_eq_of_lt (by omega)
  have h2 : (BitVec.ofInt 64 (127 : Int)).toNat = 127 := by decide
  have e : x &&& 127 = x % 128 := Nat.and_two_pow_sub_one_eq_mod x 7
  show IntKind.i64.wrap ((BitVec.ofInt 64 (x : Int) &&& BitVec.ofInt 64 (127 : Int)).toNat : Int) = _
  rw [BitVec.toNat_and, h1, h2, e]
  exact w64_id (by omega) (by omega)
theorem ones_eq {w : Nat} (hw : w < 18446744073709551616) : math_bits_OnesCount64 200000 (w : Int) = some (((bl w 0 64).length : Nat) : Int) := by
  have m1 : mk 0x55 8 = 6148914691236517205 := by decide
  have m2 : mk 0x33 8 = 3689348814741910323 := by decide
  have m3 : mk 0x0f 8 = 1085102592571150095 := by decide
  have b1 := bits_and_u64_nat (w / 2) 6148914691236517205 (by omega) (by omega)
  have b2 := bits_and_u64_nat w 6148914691236517205 hw (by omega)
  have l1 : (w / 2) &&& 6148914691236517205 ≤ 6148914691236517205 := Nat.and_le_right
  have l2 : w &&& 6148914691236517205 ≤ 6148914691236517205 := Nat.and_le_right
  have e1 : u64 ((((w / 2) &&& 6148914691236517205 : Nat) : Int) + ((w &&& 6148914691236517205 : Nat) : Int)) = ((s1 8 w : Nat) : Int) := by
    rw [u64_eq]; unfold s1; rw [m1]; omega
  have n1 : s1 8 w < 18446744073709551616 := by unfold s1; rw [m1]; omega
  have b3 := bits_and_u64_nat (s1 8 w / 4) 3689348814741910323 (by omega) (by omega)
  have b4 := bits_and_u64_nat (s1 8 w) 3689348814741910323 n1 (by omega)
  have l3 : (s1 8 w / 4) &&& 3689348814741910323 ≤ 3689348814741910323 := Nat.and_le_right
  have l4 : s1 8 w &&& 3689348814741910323 ≤ 3689348814741910323 := Nat.and_le_right
  have e2 : u64 ((((s1 8 w / 4) &&& 3689348814741910323 : Nat) : Int) + ((s1 8 w &&& 3689348814741910323 : Nat) : Int)) = ((s2 8 (s1 8 w) : Nat) : Int) := by
    rw [u64_eq]; unfold s2; rw [m2]; omega
  have n2 : s2 8 (s1 8 w) ≤ 7378697629483820646 := by unfold s2; rw [m2]; omega
  have e3 : u64 (((s2 8 (s1 8 w) / 16 : Nat) : Int) + ((s2 8 (s1 8 w) : Nat) : Int)) = ((s2 8 (s1 8 w) / 16 + s2 8 (s1 8 w) : Nat) : Int) := by
    rw [u64_eq]; omega
  have b5 := bits_and_u64_nat (s2 8 (s1 8 w) / 16 + s2 8 (s1 8 w)) 1085102592571150095 (by omega) (by omega)
  have e4 : (s2 8 (s1 8 w) / 16 + s2 8 (s1 8 w)) &&& 1085102592571150095 = pc 8 w := by
    have := pc_eq 8 w
    unfold s3 at this
    rw [m3] at this; exact this
  rw [e4] at b5
  have q1 := shr_eq w 1 (by omega)
  have q2 := shr_eq (s1 8 w) 2 (by omega)
  have q3 := shr_eq (s2 8 (s1 8 w)) 4 (by omega)
  have q4 := shr_eq (pc 8 w) 8 (by omega)
  unfold math_bits_OnesCount64
  rw [show ((1 : Int).toNat) = ((1 : Nat) : Int).toNat from rfl, show ((2 : Int).toNat) = ((2 : Nat) : Int).toNat from rfl, show ((4 : Int).toNat) = ((4 : Nat) : Int).toNat from rfl, show ((8 : Int).toNat) = ((8 : Nat) : Int).toNat from rfl, show ((16 : Int).toNat) = ((16 : Nat) : Int).toNat from rfl, show ((32 : Int).toNat) = ((32 : Nat) : Int).toNat from rfl]
  rw [q1, show (w / 2 ^ 1) = w / 2 from rfl]
  simp only [Option.bind_some]
  have b1' : bits .and .u64 ((w / 2 : Nat) : Int) 6148914691236517205 = _ := b1
  have b2' : bits .and .u64 (w : Int) 6148914691236517205 = _ := b2
  rw [b1', b2', e1, q2, show (s1 8 w / 2 ^ 2) = s1 8 w / 4 from rfl]
  have b3' : bits .and .u64 ((s1 8 w / 4 : Nat) : Int) 3689348814741910323 = _ := b3
  have b4' : bits .and .u64 ((s1 8 w : Nat) : Int) 3689348814741910323 = _ := b4
  rw [b3', b4', e2, q3, show (s2 8 (s1 8 w) / 2 ^ 4) = s2 8 (s1 8 w) / 16 from rfl, e3]
  have b5' : bits .and .u64 ((s2 8 (s1 8 w) / 16 + s2 8 (s1 8 w) : Nat) : Int) 1085102592571150095 = _ := b5
  rw [b5', q4]
  have hp := ps_eq 8 w
  rw [show 8 * 8 = 64 from rfl] at hp
  rw [hp]
  simp only [pc, ps]
  have t0 := p8_le (w % 256)
  have t1 := p8_le (w / 256 % 256)
  have t2 := p8_le (w / 256 / 256 % 256)
  have t3 := p8_le (w / 256 / 256 / 256 % 256)
  have t4 := p8_le (w / 256 / 256 / 256 / 256 % 256)
  have t5 := p8_le (w / 256 / 256 / 256 / 256 / 256 % 256)
  have t6 := p8_le (w / 256 / 256 / 256 / 256 / 256 / 256 % 256)
  have t7 := p8_le (w / 256 / 256 / 256 / 256 / 256 / 256 / 256 % 256)
  generalize p8 (w % 256) = c0 at *
  generalize p8 (w / 256 % 256) = c1 at *
  generalize p8 (w / 256 / 256 % 256) = c2 at *
  generalize p8 (w / 256 / 256 / 256 % 256) = c3 at *
  generalize p8 (w / 256 / 256 / 256 / 256 % 256) = c4 at *
  generalize p8 (w / 256 / 256 / 256 / 256 / 256 % 256) = c5 at *
  generalize p8 (w / 256 / 256 / 256 / 256 / 256 / 256 % 256) = c6 at *
  generalize p8 (w / 256 / 256 / 256 / 256 / 256 / 256 / 256 % 256) = c7 at *
  clear b1 b2 l1 l2 e1 n1 b3 b4 l3 l4 e2 n2 e3 b5 e4 q1 q2 q3 q4 hp b1' b2' b3' b4' b5' m1 m2 m3 hw
  obtain ⟨X, hX⟩ : ∃ X, X = c0 + 256 * (c1 + 256 * (c2 + 256 * (c3 + 256 * (c4 + 256 * (c5 + 256 * (c6 + 256 * (c7 + 256 * 0))))))) := ⟨_, rfl⟩
  rw [← hX]
  obtain ⟨Y, hY⟩ : ∃ Y, Y = (c0 + c1) + 256 * ((c1 + c2) + 256 * ((c2 + c3) + 256 * ((c3 + c4) + 256 * ((c4 + c5) + 256 * ((c5 + c6) + 256 * ((c6 + c7) + 256 * c7)))))) := ⟨_, rfl⟩
  have dX : X / 256 = c1 + 256 * (c2 + 256 * (c3 + 256 * (c4 + 256 * (c5 + 256 * (c6 + 256 * c7))))) := by omega
  have eY : u64 ((X : Int) + ((X / 2 ^ 8 : Nat) : Int)) = (Y : Int) := by
    rw [u64_eq, show (2 : Nat) ^ 8 = 256 from rfl, dX]; omega
  rw [eY, shr_eq Y 16 (by omega)]
  obtain ⟨Z, hZ⟩ : ∃ Z, Z = (c0 + c1 + c2 + c3) + 256 * ((c1 + c2 + c3 + c4) + 256 * ((c2 + c3 + c4 + c5) + 256 * ((c3 + c4 + c5 + c6) + 256 * ((c4 + c5 + c6 + c7) + 256 * ((c5 + c6 + c7) + 256 * ((c6 + c7) + 256 * c7)))))) := ⟨_, rfl⟩
  have dY : Y / 65536 = (c2 + c3) + 256 * ((c3 + c4) + 256 * ((c4 + c5) + 256 * ((c5 + c6) + 256 * ((c6 + c7) + 256 * c7)))) := by
    clear eY dX; omega
  have eZ : u64 ((Y : Int) + ((Y / 2 ^ 16 : Nat) : Int)) = (Z : Int) := by
    rw [u64_eq, show (2 : Nat) ^ 16 = 65536 from rfl, dY]; clear eY dX dY; omega
  rw [eZ, shr_eq Z 32 (by omega)]
  have dZ : Z / 4294967296 = (c4 + c5 + c6 + c7) + 256 * ((c5 + c6 + c7) + 256 * ((c6 + c7) + 256 * c7)) := by
    clear eY dX eZ dY; omega
  clear eY dX eZ dY hX hY
  have eV : u64 ((Z : Int) + ((Z / 2 ^ 32 : Nat) : Int)) = ((Z + Z / 4294967296 : Nat) : Int) := by
    rw [u64_eq, show (2 : Nat) ^ 32 = 4294967296 from rfl, dZ]; omega
  rw [eV, w64_id (by omega) (by omega), bits_and_127 _ (by omega)]
  congr 2
  omega
end Go.Avl.TE
/- Sets of bytes: what the document answers. -/
namespace Go.Avl.TE
open Go Go.RowKit Go.Proofs Go.Avl
set_option linter.all false
set_option maxRecDepth 10000

/-! Has. -/
/-! The list. -/
def rl (a : Vector Int 4) (i m : Nat) : List Int := ((List.range' i m).filter (tb a)).map fun t : Nat => (t : Int)
theorem rlist_l {a : Vector Int 4} (ha : U a) : ∀ (m i fuel : Nat) (acc : List Int), i + m = 256 → m < fuel → acc.length + m ≤ 10000 →
    bosketref02_List_l2 200000 a fuel acc i = some (acc ++ rl a i m)
  | 0, i, f + 1, acc, h, _, _ => by
    rw [bosketref02_List_l2.eq_2, if_neg (by omega), bosketref02_List_c0]
    unfold rl; simp
  | m + 1, i, f + 1, acc, h, hf, hz => by
    have hi : i < 256 := by omega
    rw [bosketref02_List_l2.eq_2, if_pos (by omega), rhas_eq ha hi, Option.bind_some]
    have e : rl a i (m + 1) = (if tb a i = true then [(i : Int)] else []) ++ rl a (i + 1) m := by
      unfold rl
      rw [List.range'_succ]
      by_cases q : tb a i = true
      · rw [if_pos q, List.filter_cons_of_pos q]; rfl
      · rw [if_neg q, List.filter_cons_of_neg (by simpa using q)]; rfl
    by_cases q : tb a i = true
    · rw [if_pos q, w8_id (by omega) (by omega), if_pos (by simp; omega)]
      unfold bosketref02_List_c1
      rw [w64_id (by omega) (by omega)]
      have ih := rlist_l ha m (i + 1) f (acc ++ [(i : Int)]) (by omega) (by omega) (by simp; omega)
      rw [e, if_pos q, ← List.append_assoc]
      exact_mod_cast ih
    · rw [if_neg q]
      unfold bosketref02_List_c1
      rw [w64_id (by omega) (by omega)]
      have ih := rlist_l ha m (i + 1) f acc (by omega) (by omega) (by omega)
      rw [e, if_neg q, List.nil_append]
      exact_mod_cast ih
theorem rl_ll (a : Vector Int 4) : rl a 0 256 = ll a := by
  have h1 : (rl a 0 256).Pairwise (· < ·) := by
    unfold rl
    rw [List.pairwise_map]
    refine List.Pairwise.filter _ ?_
    have := List.pairwise_lt_range' (s := 0) (n := 256) (step := 1) (by omega)
    exact this.imp fun h => by omega
  have hm : ∀ x, x ∈ rl a 0 256 ↔ x ∈ ll a := by
    intro x
    constructor
    · intro h
      unfold rl at h
      obtain ⟨t, ht, rfl⟩ := List.mem_map.1 h
      obtain ⟨k1, k2⟩ := List.mem_filter.1 ht
      have := List.mem_range'_1.1 k1
      exact (ll_mem a t (show t < 256 by omega)).2 k2
    · intro h
      have := ll_lt a x h
      obtain ⟨t, rfl⟩ : ∃ t : Nat, x = t := ⟨x.toNat, by omega⟩
      unfold rl
      exact List.mem_map.2 ⟨t, List.mem_filter.2 ⟨List.mem_range'_1.2 ⟨by omega, by omega⟩, (ll_mem a t (by omega)).1 h⟩, rfl⟩
  have n1 : (rl a 0 256).Nodup := h1.imp fun h e => by omega
  have n2 : (ll a).Nodup := (ll_sorted a).imp fun h e => by omega
  refine List.Perm.eq_of_pairwise (le := (· < ·)) (fun a b _ _ h h' => by omega) h1 (ll_sorted a) ?_
  exact (List.perm_ext_iff_of_nodup n1 n2).2 hm
theorem rlist_eq {a : Vector Int 4} (ha : U a) : bosketref02_List 200000 a = some (ll a) := by
  have := rlist_l ha 256 0 200000 [] (by omega) (by omega) (by simp)
  rw [rl_ll] at this
  exact this
/-! Len, Empty, First. -/
theorem len_l {a : Vector Int 4} (ha : U a) : ∀ (m i fuel n : Nat), i + m = 4 → m < fuel → n + 64 * m ≤ 1000 → byteset_Len_l1 200000 a fuel (n : Int) i = some ((n + (al a i m).length : Nat) : Int)
  | 0, i, f + 1, n, h, _, _ => by
    rw [byteset_Len_l1.eq_2, if_neg (by omega), byteset_Len_c0, al]; rfl
  | m + 1, i, f + 1, n, h, hf, hz => by
    have hi : i < 4 := by omega
    obtain ⟨e, l⟩ := wd_eq ha i hi
    have hl := bl_len (wd a i)
    rw [byteset_Len_l1.eq_2, if_pos (by omega), if_pos ⟨by omega, by omega⟩, e, ones_eq l, Option.bind_some, w64_id (by omega) (by omega), w64_id (by omega) (by omega)]
    have ih := len_l ha m (i + 1) f (n + (bl (wd a i) 0 64).length) (by omega) (by omega) (by omega)
    rw [al, List.length_append]
    have e2 : (wl (wd a i) i).length = (bl (wd a i) 0 64).length := by unfold wl; rw [List.length_map]
    rw [e2, ← Nat.add_assoc]
    exact_mod_cast ih
theorem len_eq {a : Vector Int 4} (ha : U a) : byteset_Len 200000 a = some ((ll a).length : Int) := by
  have := len_l ha 4 0 200000 0 (by omega) (by omega) (by omega)
  rw [Nat.zero_add] at this
  exact this
theorem empty_eq {a : Vector Int 4} (ha : U a) : byteset_Empty 200000 a = some (decide (((ll a).length : Int) = 0)) := by
  unfold byteset_Empty
  congr 1
  rw [decide_eq_decide]
  constructor
  · intro e
    have : ll a = [] := by
      rw [List.eq_nil_iff_forall_not_mem]
      intro x h
      have hx := ll_lt a x h
      obtain ⟨t, rfl⟩ : ∃ t : Nat, x = t := ⟨x.toNat, by omega⟩
      have := (ll_mem a t (by omega)).1 h
      rw [e, tb_zero t (by omega)] at this
      cases this
    rw [this]; rfl
  · intro h
    have h0 : ll a = [] := List.length_eq_zero_iff.1 (by omega)
    refine ext_tb ha U_zero fun b hb => ?_
    rw [tb_zero b hb, Bool.eq_false_iff]
    intro ht
    have := (ll_mem a b hb).2 ht
    rw [h0] at this
    cases this
def hd : List Int → Int
  | [] => -1
  | x :: _ => x
theorem hd_app (l m : List Int) : hd (l ++ m) = if l = [] then hd m else hd l := by
  cases l with
  | nil => rfl
  | cons x l => rw [if_neg (by simp)]; rfl
theorem first_l {a : Vector Int 4} (ha : U a) : ∀ (m i fuel : Nat), i + m = 4 → m < fuel → byteset_First_l1 200000 a fuel i = some (hd (al a i m))
  | 0, i, f + 1, h, _ => by
    rw [byteset_First_l1.eq_2, if_neg (by omega), byteset_First_c0]; rfl
  | m + 1, i, f + 1, h, hf => by
    have hi : i < 4 := by omega
    obtain ⟨e, l⟩ := wd_eq ha i hi
    rw [byteset_First_l1.eq_2, if_pos (by omega), if_pos ⟨by omega, by omega⟩, e, al, hd_app]
    by_cases z : wd a i = 0
    · rw [z, if_neg (by simp)]
      unfold wl
      rw [bl_zero, List.map_nil, if_pos rfl, w64_id (by omega) (by omega)]
      have ih := first_l ha m (i + 1) f (by omega) (by omega)
      exact_mod_cast ih
    · obtain ⟨t, n, e2⟩ := low_split (Nat.pos_of_ne_zero z)
      obtain ⟨ht, k1, _⟩ := tz_eq l e2
      have hl := bl_low e2 ht
      unfold wl
      rw [if_pos (by omega), k1, Option.bind_some, hl, List.map_cons, if_neg (by simp), w64_id (n := (64 : Int) * (i : Int)) (by omega) (by omega), w64_id (by omega) (by omega)]
      unfold hd
      congr 1
theorem first_eq {a : Vector Int 4} (ha : U a) : byteset_First 200000 a = some (hd (ll a)) := first_l ha 4 0 200000 (by omega) (by omega)
end Go.Avl.TE
/- Sets of bytes: joined, cut, filled; what the document answers for them. -/
namespace Go.Avl.TE
open Go Go.RowKit Go.Proofs Go.Avl
set_option linter.all false
set_option maxRecDepth 10000

theorem bits_andnot_u64_nat (a b : Nat) (ha : a < 18446744073709551616) (hb : b < 18446744073709551616) :
    ∃ c : Nat, bits .andNot .u64 (a : Int) (b : Int) = (c : Int) ∧ c < 18446744073709551616 ∧ ∀ i, i < 64 → c.testBit i = (a.testBit i && !b.testBit i) := by
  have h1 : (BitVec.ofInt 64 (a : Int)).toNat = a := by
    rw [BitVec.ofInt_natCast, BitVec.toNat_ofNat]; exact Nat.mod_eq_of_lt (by omega)
  have h2 : (BitVec.ofInt 64 (b : Int)).toNat = b := by
    rw [BitVec.ofInt_natCast, BitVec.toNat_ofNat]; exact Nat.mod_eq_of_lt (by omega)
  have hlt : (BitVec.ofInt 64 (a : Int) &&& ~~~ BitVec.ofInt 64 (b : Int)).toNat < 18446744073709551616 := BitVec.isLt _
  refine ⟨(BitVec.ofInt 64 (a : Int) &&& ~~~ BitVec.ofInt 64 (b : Int)).toNat, ?_, hlt, fun i hi => ?_⟩
  · show IntKind.u64.wrap ((BitVec.ofInt 64 (a : Int) &&& ~~~ BitVec.ofInt 64 (b : Int)).toNat : Int) = _
    rw [IntKind.wrap_u64]; omega
  · rw [BitVec.testBit_toNat, BitVec.getLsbD_and, BitVec.getLsbD_not, ← BitVec.testBit_toNat, ← BitVec.testBit_toNat, h1, h2, decide_eq_true hi, Bool.true_and]
theorem less_l (p1 : Vector Int 4) (h1 : U p1) : ∀ (m i fuel : Nat) (a : Vector Int 4), i + m = 4 → m < fuel → U a →
    ∃ c, byteset_Less_l1 200000 p1 fuel a i = some c ∧ U c ∧ ∀ j : Nat, j < 4 → ∀ t, t < 64 → (wd c j).testBit t = if i ≤ j then (wd a j).testBit t && !(wd p1 j).testBit t else (wd a j).testBit t
  | 0, i, f + 1, a, h, _, ha => by
    rw [byteset_Less_l1.eq_2, if_neg (by omega), byteset_Less_c0]
    exact ⟨a, rfl, ha, fun j hj t ht => by rw [if_neg (by omega)]⟩
  | m + 1, i, f + 1, a, h, hf, ha => by
    have hi : i < 4 := by omega
    have g : 0 ≤ (i : Int) ∧ (i : Int) < 4 := ⟨by omega, by omega⟩
    obtain ⟨e1, l1⟩ := wd_eq ha i hi
    obtain ⟨e2, l2⟩ := wd_eq h1 i hi
    obtain ⟨z, z1, z2, z3⟩ := bits_andnot_u64_nat _ _ l1 l2
    have ho : bits .andNot .u64 (vget a (i : Int)) (vget p1 (i : Int)) = (z : Int) := by rw [e1, e2, z1]
    have hU : U (vset a (i : Int) (z : Int)) := by
      intro j hj
      rw [vget_vset _ _ _ _ hi hj]
      split
      · omega
      · exact ha j hj
    obtain ⟨c, c1, c2, c3⟩ := less_l p1 h1 m (i + 1) f (vset a (i : Int) (z : Int)) (by omega) (by omega) hU
    rw [byteset_Less_l1.eq_2, if_pos g.2, if_pos g, if_pos g, if_pos g, ho, w64_id (by omega) (by omega)]
    refine ⟨c, by exact_mod_cast c1, c2, fun j hj t ht => ?_⟩
    rw [c3 j hj t ht]
    have hw : wd (vset a (i : Int) (z : Int)) j = if j = i then z else wd a j := by
      unfold wd
      rw [vget_vset _ _ _ _ hi hj]
      by_cases q : j = i
      · rw [if_pos q, if_pos q, Int.toNat_natCast]
      · rw [if_neg q, if_neg q]
    rw [hw]
    by_cases q : j = i
    · subst q; rw [if_neg (by omega), if_pos rfl, if_pos (by omega), z3 t ht]
    · rw [if_neg q]
      by_cases r : i + 1 ≤ j
      · rw [if_pos r, if_pos (by omega)]
      · rw [if_neg r, if_neg (by omega)]
theorem less_eq {a b : Vector Int 4} (ha : U a) (hb : U b) : ∃ c, byteset_Less 200000 a b = some c ∧ U c ∧ ∀ x, x < 256 → tb c x = (tb a x && !tb b x) := by
  obtain ⟨c, c1, c2, c3⟩ := less_l b hb 4 0 200000 a (by omega) (by omega) ha
  refine ⟨c, c1, c2, fun x hx => ?_⟩
  unfold tb
  rw [c3 _ (by omega) _ (by omega), if_pos (by omega)]
theorem full_eq : ∃ c, byteset_Full 200000 = some c ∧ U c ∧ ∀ x, x < 256 → tb c x = true := by
  refine ⟨_, rfl, ?_⟩
  have hv : ∀ j : Nat, j < 4 → vget ((vset (vset (vset (vset (Vector.replicate 4 (0 : Int)) (0 : Int) (18446744073709551615 : Int)) (1 : Int) (18446744073709551615 : Int)) (2 : Int) (18446744073709551615 : Int)) (3 : Int) (18446744073709551615 : Int))) (j : Int) = 18446744073709551615 := by
    intro j hj
    have : j = 0 ∨ j = 1 ∨ j = 2 ∨ j = 3 := by omega
    rcases this with rfl | rfl | rfl | rfl <;> rfl
  constructor
  · intro j hj; rw [hv j hj]; omega
  · intro x hx
    unfold tb wd
    rw [hv _ (by omega)]
    have := Nat.testBit_two_pow_sub_one 64 (x % 64)
    have h2 : (18446744073709551615 : Int).toNat = 2 ^ 64 - 1 := rfl
    rw [h2, this]; exact decide_eq_true (by omega)
theorem not_eq {a : Vector Int 4} (ha : U a) : ∃ c, byteset_Not 200000 a = some c ∧ U c ∧ ∀ x, x < 256 → tb c x = !tb a x := by
  obtain ⟨d, d1, d2, d3⟩ := full_eq
  obtain ⟨c, c1, c2, c3⟩ := less_eq d2 ha
  refine ⟨c, ?_, c2, fun x hx => by rw [c3 x hx, d3 x hx, Bool.true_and]⟩
  unfold byteset_Not
  rw [d1, Option.bind_some, c1]; rfl
/-! The document's sets. -/
theorem rof_l (L : List Bool) : ∀ (m i fuel : Nat) (a : Vector Int 4), i + m = min 256 L.length → m < fuel → U a → (∀ x, x < 256 → i ≤ x → tb a x = false) →
    ∃ c, bosketref02_Of_l2 200000 L fuel a i = some c ∧ U c ∧ ∀ x, x < 256 → tb c x = (tb a x || (decide (i ≤ x) && L.getD x false))
  | 0, i, f + 1, a, h, _, ha, hz => by
    rw [bosketref02_Of_l2.eq_2]
    have hb : (if (i : Int) < 256 then some (decide ((i : Int) < (L.length : Int))) else some false) = some false := by
      by_cases q : (i : Int) < 256
      · rw [if_pos q, decide_eq_false (by omega)]
      · rw [if_neg q]
    rw [hb, Option.bind_some, if_neg (by decide), bosketref02_Of_c0]
    refine ⟨a, rfl, ha, fun x hx => ?_⟩
    by_cases q : i ≤ x
    · rw [decide_eq_true q, Bool.true_and, List.getD, List.getElem?_eq_none (by omega)]; simp
    · rw [decide_eq_false q]; simp
  | m + 1, i, f + 1, a, h, hf, ha, hz => by
    have hi : i < 256 := by omega
    have hl : i < L.length := by omega
    have g : 0 ≤ (i : Int) ∧ (i : Int) < (L.length : Int) := ⟨by omega, by omega⟩
    have eb : lget L (i : Int) = L[i] := by
      unfold lget; rw [show (i : Int).toNat = i by omega, List.getD, List.getElem?_eq_getElem hl]; rfl
    have eg : L.getD i false = L[i] := by rw [List.getD, List.getElem?_eq_getElem hl]; rfl
    rw [bosketref02_Of_l2.eq_2, if_pos (show (i : Int) < 256 by omega), decide_eq_true g.2, Option.bind_some, if_pos rfl, if_pos g, eb]
    by_cases q : L[i] = true
    · obtain ⟨e, l⟩ := wd_eq ha (i / 64) (by omega)
      have hsmall : wd a (i / 64) < 2 ^ (i % 64) := by
        apply Nat.lt_pow_two_of_testBit
        intro t ht
        by_cases r : t < 64
        · have := hz (64 * (i / 64) + t) (by omega) (by omega)
          unfold tb at this
          rwa [show (64 * (i / 64) + t) / 64 = i / 64 by omega, show (64 * (i / 64) + t) % 64 = t by omega] at this
        · have hp : 18446744073709551616 ≤ 2 ^ t := Nat.le_trans (by decide : 18446744073709551616 ≤ 2 ^ 64) (Nat.pow_le_pow_right (by omega) (by omega))
          exact Nat.testBit_lt_two_pow (by omega)
      have hpw : (2 : Nat) ^ (i % 64) < 18446744073709551616 := Nat.lt_of_lt_of_le (Nat.pow_lt_pow_right (by omega) (by omega : i % 64 < 64)) (by decide : 2 ^ 64 ≤ 18446744073709551616)
      obtain ⟨o1, o2⟩ := or_bit l (i := i % 64) (by omega)
      have hsum : wd a (i / 64) ||| 2 ^ (i % 64) = 2 ^ (i % 64) + wd a (i / 64) := by
        have := Nat.two_pow_add_eq_or_of_lt hsmall 1
        rw [Nat.mul_one] at this
        rw [this, Nat.or_comm]
      have e5 : IntKind.u64.wrap ((1 : Int) * 2 ^ (min (i % 64) IntKind.u64.bits)) = ((2 ^ (i % 64) : Nat) : Int) := by
        rw [show min (i % 64) IntKind.u64.bits = i % 64 by show min (i % 64) 64 = i % 64; omega]
        have := u64_eq (1 * 2 ^ (i % 64))
        unfold u64 at this
        rw [this]
        have e3 : ((1 : Int) * 2 ^ (i % 64)) = ((2 ^ (i % 64) : Nat) : Int) := by simp
        rw [e3]
        generalize 2 ^ (i % 64) = q at hpw ⊢
        omega
      have e6 : u64 (vget a ((i / 64 : Nat) : Int) + IntKind.u64.wrap ((1 : Int) * 2 ^ (min (i % 64) IntKind.u64.bits))) = bits .or .u64 (vget a ((i / 64 : Nat) : Int)) (IntKind.u64.wrap ((1 : Int) * 2 ^ (min (i % 64) IntKind.u64.bits))) := by
        rw [e, o1, e5, hsum, u64_eq]
        generalize 2 ^ (i % 64) = q at *
        omega
      obtain ⟨p1, p2⟩ := put_bit ha hi _ rfl
      obtain ⟨c, c1, c2, c3⟩ := rof_l L m (i + 1) f _ (by omega) (by omega) p1 (fun x hx hxi => by rw [p2 x hx, hz x hx (by omega), decide_eq_false (by omega)]; rfl)
      rw [if_pos q, ix_i64 i (by omega), ix_u64 i (by omega), if_pos ⟨by omega, by omega⟩, if_pos (by omega), if_pos ⟨by omega, by omega⟩, Int.toNat_natCast, e6]
      unfold bosketref02_Of_c1
      rw [w64_id (by omega) (by omega)]
      refine ⟨c, by exact_mod_cast c1, c2, fun x hx => ?_⟩
      rw [c3 x hx, p2 x hx]
      by_cases r : x = i
      · subst r
        rw [decide_eq_true rfl, decide_eq_true (Nat.le_refl _), eg, q]; simp
      · rw [decide_eq_false r, Bool.or_false]
        congr 2
        rw [decide_eq_decide]; omega
    · rw [if_neg q]
      unfold bosketref02_Of_c1
      rw [w64_id (by omega) (by omega)]
      obtain ⟨c, c1, c2, c3⟩ := rof_l L m (i + 1) f a (by omega) (by omega) ha (fun x hx hxi => hz x hx (by omega))
      refine ⟨c, by exact_mod_cast c1, c2, fun x hx => ?_⟩
      rw [c3 x hx]
      by_cases r : x = i
      · subst r
        rw [decide_eq_false (by omega), decide_eq_true (Nat.le_refl _), eg, Bool.eq_false_iff.2 q]; rfl
      · congr 2
        rw [decide_eq_decide]; omega
theorem rof_eq (L : List Bool) : ∃ c, bosketref02_Of 200000 L = some c ∧ U c ∧ ∀ x, x < 256 → tb c x = L.getD x false := by
  obtain ⟨c, c1, c2, c3⟩ := rof_l L (min 256 L.length) 0 200000 _ (by omega) (by omega) U_zero (fun x hx _ => tb_zero x hx)
  refine ⟨c, c1, c2, fun x hx => ?_⟩
  rw [c3 x hx, tb_zero x hx, decide_eq_true (Nat.zero_le _)]; simp
def opb (o : Int) (s t : Bool) : Bool := if o = 0 then s || t else if o = 1 then s && t else if o = 2 then s && !t else !s
theorem rput_l (o : Int) {a b : Vector Int 4} (ha : U a) (hb : U b) : ∀ (m i fuel : Nat) (acc : List Bool), i + m = 256 → m < fuel → acc.length = i → (∀ x, x < i → acc.getD x false = opb o (tb a x) (tb b x)) →
    ∃ L : List Bool, bosketref02_Put_l2 200000 o a b fuel acc i = bosketref02_Put_c0 200000 L ∧ ∀ x, x < 256 → L.getD x false = opb o (tb a x) (tb b x)
  | 0, i, f + 1, acc, h, _, hl, hz => by
    rw [bosketref02_Put_l2.eq_2, if_neg (by omega)]
    exact ⟨acc, rfl, fun x hx => hz x (by omega)⟩
  | m + 1, i, f + 1, acc, h, hf, hl, hz => by
    have hi : i < 256 := by omega
    have next : ∀ v, v = opb o (tb a i) (tb b i) → ∃ L : List Bool, bosketref02_Put_c1 200000 (bosketref02_Put_l2 200000 o a b f) (i : Int) (acc ++ [v]) = bosketref02_Put_c0 200000 L ∧ ∀ x, x < 256 → L.getD x false = opb o (tb a x) (tb b x) := by
      intro v hv
      unfold bosketref02_Put_c1
      rw [w64_id (by omega) (by omega)]
      have := rput_l o ha hb m (i + 1) f (acc ++ [v]) (by omega) (by omega) (by simp; omega) (fun x hx => by
        by_cases q : x < i
        · rw [List.getD, List.getElem?_append_left (by omega)]
          have := hz x q
          rw [List.getD] at this
          exact this
        · have e : x = i := by omega
          subst e
          rw [List.getD, List.getElem?_append_right (by omega), hl, Nat.sub_self, ← hv]; rfl)
      exact_mod_cast this
    have hlen : ∀ v : Bool, (acc ++ [v]).length * 1 ≤ 140737488355328 := by intro v; simp; omega
    rw [bosketref02_Put_l2.eq_2, if_pos (by omega), rhas_eq ha hi, Option.bind_some, rhas_eq hb hi, Option.bind_some]
    by_cases o0 : o = 0
    · rw [if_pos o0]
      cases q : tb a i with
      | true => rw [if_pos rfl, if_pos (hlen _)]; exact next _ (by unfold opb; rw [if_pos o0, q]; rfl)
      | false => rw [if_neg (by decide), if_pos (hlen _)]; exact next _ (by unfold opb; rw [if_pos o0, q]; rfl)
    · rw [if_neg o0]
      by_cases o1 : o = 1
      · rw [if_pos o1]
        cases q : tb a i with
        | true => rw [if_pos rfl, if_pos (hlen _)]; exact next _ (by unfold opb; rw [if_neg o0, if_pos o1, q]; rfl)
        | false => rw [if_neg (by decide), if_pos (hlen _)]; exact next _ (by unfold opb; rw [if_neg o0, if_pos o1, q]; rfl)
      · rw [if_neg o1]
        by_cases o2 : o = 2
        · rw [if_pos o2]
          cases q : tb a i with
          | true => rw [if_pos rfl, if_pos (hlen _)]; exact next _ (by unfold opb; rw [if_neg o0, if_neg o1, if_pos o2, q]; rfl)
          | false => rw [if_neg (by decide), if_pos (hlen _)]; exact next _ (by unfold opb; rw [if_neg o0, if_neg o1, if_pos o2, q]; rfl)
        · rw [if_neg o2, if_pos (hlen _)]
          exact next _ (by unfold opb; rw [if_neg o0, if_neg o1, if_neg o2])
theorem rput_eq (o : Int) {a b : Vector Int 4} (ha : U a) (hb : U b) : ∃ c, bosketref02_Put 200000 o a b = some c ∧ U c ∧ ∀ x, x < 256 → tb c x = opb o (tb a x) (tb b x) := by
  obtain ⟨L, l1, l2⟩ := rput_l o ha hb 256 0 200000 [] (by omega) (by omega) rfl (fun x hx => by omega)
  obtain ⟨c, c1, c2, c3⟩ := rof_eq L
  refine ⟨c, ?_, c2, fun x hx => by rw [c3 x hx, l2 x hx]⟩
  have e : bosketref02_Put 200000 o a b = bosketref02_Put_l2 200000 o a b 200000 [] ((0 : Nat) : Int) := rfl
  rw [e, l1, bosketref02_Put_c0, c1]; rfl
end Go.Avl.TE
/- BytesetSpans: the plain law. -/
namespace Go.Avl.TE
open Go Go.RowKit Go.Proofs Go.Avl
set_option linter.all false
set_option maxRecDepth 10000

/-- Spans that rise and do not touch. -/
def Good (S : List S71) : Prop := (∀ s ∈ S, 0 ≤ s.f0 ∧ s.f0 ≤ s.f1 ∧ s.f1 < 256) ∧ S.Pairwise fun a b => a.f1 + 1 < b.f0
def Cov (S : List S71) (x : Int) : Prop := ∃ s ∈ S, s.f0 ≤ x ∧ x ≤ s.f1
theorem lget_last {α : Type} [Inhabited α] (T : List α) (s : α) : lget (T ++ [s]) (T.length : Int) = s := by
  unfold lget; simp [List.getD]
theorem lset_last {α : Type} (T : List α) (s s' : α) : lset (T ++ [s]) (T.length : Int) s' = T ++ [s'] := by
  unfold lset; simp
theorem spans_l (L : List Int) (hL : ∀ x ∈ L, 0 ≤ x ∧ x < 256) (hs : L.Pairwise (· < ·)) (hz : L.length ≤ 256) : ∀ (m i fuel : Nat) (S : List S71), i + m = L.length → m < fuel → Good S → (∀ x, Cov S x ↔ x ∈ L.take i) → S.length ≤ i → (∀ T s, S = T ++ [s] → s.f1 ∈ L.take i) →
    ∃ S', byteset_Spans_l2 200000 L fuel S i = some S' ∧ Good S' ∧ (∀ x, Cov S' x ↔ x ∈ L) ∧ S'.length ≤ 256
  | 0, i, f + 1, S, h, _, hg, hc, hl, _ => by
    rw [byteset_Spans_l2.eq_2, if_neg (by omega), byteset_Spans_c0]
    rw [List.take_of_length_le (by omega)] at hc
    exact ⟨S, rfl, hg, hc, by omega⟩
  | m + 1, i, f + 1, S, h, hf, hg, hc, hl, hlast => by
    have hi : i < L.length := by omega
    have g : 0 ≤ (i : Int) ∧ (i : Int) < (L.length : Int) := ⟨by omega, by omega⟩
    have eb : lget L (i : Int) = L[i] := by
      unfold lget; rw [show (i : Int).toNat = i by omega, List.getD, List.getElem?_eq_getElem hi]; rfl
    have hb := hL L[i] (List.getElem_mem hi)
    have htake : L.take (i + 1) = L.take i ++ [L[i]] := (List.take_append_getElem hi).symm
    have hgt : ∀ x ∈ L.take i, x < L[i] := by
      intro x hx
      obtain ⟨j, hj, e⟩ := List.getElem_of_mem hx
      rw [List.length_take] at hj
      rw [List.getElem_take] at e
      rw [← e]
      exact List.pairwise_iff_getElem.1 hs j i (by omega) hi (by omega)
    have next : ∀ S2 : List S71, Good S2 → (∀ x, Cov S2 x ↔ (Cov S x ∨ x = L[i])) → S2.length ≤ i + 1 → (∀ T s, S2 = T ++ [s] → s.f1 = L[i]) →
        ∃ S', byteset_Spans_c1 200000 (byteset_Spans_l2 200000 L f) (i : Int) S2 = some S' ∧ Good S' ∧ (∀ x, Cov S' x ↔ x ∈ L) ∧ S'.length ≤ 256 := by
      intro S2 h1 h2 h3 h4
      unfold byteset_Spans_c1
      rw [w64_id (by omega) (by omega)]
      have := spans_l L hL hs hz m (i + 1) f S2 (by omega) (by omega) h1 (fun x => by rw [h2 x, hc x, htake, List.mem_append, List.mem_singleton]) h3 (fun T s e => by rw [h4 T s e, htake]; exact List.mem_append.2 (.inr (List.mem_singleton.2 rfl)))
      exact_mod_cast this
    rw [byteset_Spans_l2.eq_2, if_pos g.2, if_pos g, eb]
    rcases List.eq_nil_or_concat S with e | ⟨T, s, e⟩
    · subst e
      rw [if_neg (by simp), Option.bind_some, if_neg (by decide), if_pos (by simp)]
      refine next _ ⟨fun s hs => ?_, by simp⟩ (fun x => ?_) (by simp) (fun T s e => ?_)
      · have : s = S71.mk L[i] L[i] := by simpa using hs
        subst this; dsimp only; omega
      · unfold Cov; simp; omega
      · have e2 := congrArg List.getLast? e
        simp at e2
        rw [← e2]
    · rw [List.concat_eq_append] at e
      subst e
      have hs1 := hg.1 s (by simp)
      have hlt := hgt s.f1 (hlast T s rfl)
      have hlen : ((T ++ [s]).length : Int) = (T.length : Int) + 1 := by simp
      have el : w64 (((T ++ [s]).length : Int) - 1) = (T.length : Int) := by
        have : T.length ≤ 256 := by simp at hl; omega
        rw [hlen, w64_id (by omega) (by omega)]; omega
      have g2 : 0 ≤ (T.length : Int) ∧ (T.length : Int) < ((T ++ [s]).length : Int) := ⟨by omega, by omega⟩
      have hpw := hg.2
      rw [List.pairwise_append] at hpw
      rw [el, if_pos (by omega), if_pos g2, lget_last, Option.bind_some, w64_id (n := s.f1) (by omega) (by omega), w64_id (n := s.f1 + 1) (by omega) (by omega), w64_id (n := L[i]) (by omega) (by omega)]
      by_cases q : s.f1 + 1 = L[i]
      · rw [if_pos (decide_eq_true q), if_pos g2, lset_last]
        refine next _ ⟨fun u hu => ?_, ?_⟩ (fun x => ?_) (by simp at hl ⊢; omega) (fun T' s' e => ?_)
        · rcases List.mem_append.1 hu with hu | hu
          · exact hg.1 u (by simp [hu])
          · have : u = S71.mk s.f0 L[i] := by simpa using hu
            subst this; dsimp only; omega
        · rw [List.pairwise_append]
          refine ⟨hpw.1, by simp, fun u hu v hv => ?_⟩
          have : v = S71.mk s.f0 L[i] := by simpa using hv
          subst this
          exact hpw.2.2 u hu s (by simp)
        · unfold Cov
          constructor
          · rintro ⟨u, hu, h1, h2⟩
            rcases List.mem_append.1 hu with hu | hu
            · exact .inl ⟨u, by simp [hu], h1, h2⟩
            · have : u = S71.mk s.f0 L[i] := by simpa using hu
              subst this
              dsimp only at h1 h2
              by_cases r : x = L[i]
              · exact .inr r
              · exact .inl ⟨s, by simp, h1, by omega⟩
          · rintro (⟨u, hu, h1, h2⟩ | rfl)
            · rcases List.mem_append.1 hu with hu | hu
              · exact ⟨u, by simp [hu], h1, h2⟩
              · have : u = s := by simpa using hu
                subst this
                exact ⟨S71.mk u.f0 L[i], by simp, h1, by dsimp only; omega⟩
            · exact ⟨S71.mk s.f0 L[i], by simp, by dsimp only; omega, by dsimp only; omega⟩
        · have e2 := congrArg List.getLast? e
          simp at e2
          rw [← e2]
      · rw [if_neg (by simpa using q), if_pos (by simp at hl ⊢; omega)]
        refine next _ ⟨fun u hu => ?_, ?_⟩ (fun x => ?_) (by simp at hl ⊢; omega) (fun T' s' e => ?_)
        · rcases List.mem_append.1 hu with hu | hu
          · exact hg.1 u hu
          · have : u = S71.mk L[i] L[i] := by simpa using hu
            subst this; dsimp only; omega
        · rw [List.pairwise_append]
          refine ⟨hg.2, by simp, fun u hu v hv => ?_⟩
          have : v = S71.mk L[i] L[i] := by simpa using hv
          subst this
          dsimp only
          have hle : u.f1 ≤ s.f1 := by
            rcases List.mem_append.1 hu with hu | hu
            · have := hpw.2.2 u hu s (by simp); omega
            · have : u = s := by simpa using hu
              subst this; omega
          omega
        · unfold Cov
          constructor
          · rintro ⟨u, hu, h1, h2⟩
            rcases List.mem_append.1 hu with hu | hu
            · exact .inl ⟨u, hu, h1, h2⟩
            · have : u = S71.mk L[i] L[i] := by simpa using hu
              subst this
              exact .inr (by dsimp only at h1 h2; omega)
          · rintro (⟨u, hu, h1, h2⟩ | rfl)
            · exact ⟨u, List.mem_append.2 (.inl hu), h1, h2⟩
            · exact ⟨S71.mk L[i] L[i], by simp, by dsimp only; omega, by dsimp only; omega⟩
        · have e2 := congrArg List.getLast? e
          simp at e2
          rw [← e2]
theorem of_l (l : List Int) (hl : ∀ b ∈ l, 0 ≤ b ∧ b ≤ 255) (hz : l.length ≤ 1000) : ∀ (m i fuel : Nat) (a : Vector Int 4), i + m = l.length → m < fuel → U a →
    ∃ c, byteset_Of_l1 200000 l fuel a i = some c ∧ U c ∧ ∀ x, x < 256 → tb c x = (tb a x || decide ((x : Int) ∈ l.drop i))
  | 0, i, f + 1, a, h, _, ha => by
    rw [byteset_Of_l1.eq_2, if_neg (by omega), byteset_Of_c0]
    exact ⟨a, rfl, ha, fun x hx => by rw [List.drop_of_length_le (by omega)]; simp⟩
  | m + 1, i, f + 1, a, h, hf, ha => by
    have hi : i < l.length := by omega
    have g : 0 ≤ (i : Int) ∧ (i : Int) < (l.length : Int) := ⟨by omega, by omega⟩
    have eb : lget l (i : Int) = l[i] := by
      unfold lget; rw [show (i : Int).toNat = i by omega, List.getD, List.getElem?_eq_getElem hi]; rfl
    have hb := hl l[i] (List.getElem_mem hi)
    obtain ⟨b, eb2⟩ : ∃ b : Nat, l[i] = b := ⟨l[i].toNat, by omega⟩
    have hb2 : b < 256 := by omega
    obtain ⟨p1, p2⟩ := put_bit ha hb2 _ rfl
    obtain ⟨c, c1, c2, c3⟩ := of_l l hl hz m (i + 1) f _ (by omega) (by omega) p1
    rw [byteset_Of_l1.eq_2, if_pos g.2, if_pos g, eb, eb2, ix_u8 b hb2, tmod64, if_pos ⟨by omega, by omega⟩, if_pos (by omega), if_pos ⟨by omega, by omega⟩, Int.toNat_natCast, w64_id (by omega) (by omega)]
    refine ⟨c, by exact_mod_cast c1, c2, fun x hx => ?_⟩
    rw [c3 x hx, p2 x hx, List.drop_eq_getElem_cons hi, eb2, Bool.or_assoc]
    congr 1
    rw [← Bool.decide_or, decide_eq_decide, List.mem_cons]
    constructor
    · rintro (h | h)
      · exact .inl (by omega)
      · exact .inr h
    · rintro (h | h)
      · exact .inl (by omega)
      · exact .inr h
theorem spans_eq {a : Vector Int 4} (ha : U a) : ∃ S, byteset_Spans 200000 a = some S ∧ Good S ∧ (∀ x, Cov S x ↔ x ∈ ll a) ∧ S.length ≤ 256 := by
  obtain ⟨S, s1, s2, s3, s4⟩ := spans_l (ll a) (ll_lt a) (ll_sorted a) (ll_len a) (ll a).length 0 200000 [] (by omega) (by have := ll_len a; omega) ⟨fun s hs => (by cases hs), List.Pairwise.nil⟩ (fun x => by unfold Cov; simp) (by simp) (fun T s e => by have := congrArg List.length e; simp at this)
  refine ⟨S, ?_, s2, s3, s4⟩
  unfold byteset_Spans
  rw [list_eq ha, Option.bind_some]
  exact s1
end Go.Avl.TE
