/- Parts: T3W, T3Z1, T3R1, T3Z2, T3R2, T3R4, T3R5, T3R6, T3R3, T3PureDerivFirst. -/
import Derived.Test.YtcdennkoccjacaaAF1
import Derived.Test.YtcdennkoccjacaaAv3
import Derived.Laws.Bits64b
import Derived.Test.YtcdennkoccjacaaAF2
import Derived.Test.YtcdennkoccjacaaAF3
import Derived.Test.YtcdennkoccjacaaAF4
import Derived.Test.YtcdennkoccjacaaAF5
/- Opening of the arguments; printed by avlaw.py. -/
namespace Go.Avl.T3
open Go Go.RowKit Go.Proofs Go.Avl
set_option linter.unusedVariables false
set_option maxRecDepth 100000
abbrev wf3 : Int → Prop := (fun n : Int => (Lit.int .i64 n).wf = true)
theorem op3 : Opens Try.prog 3 eI64 wf3 := opens_int Try.underlying3
abbrev wf31 : Int → Prop := (fun n : Int => (Lit.int .u64 n).wf = true)
theorem op31 : Opens Try.prog 31 eU64 wf31 := opens_int Try.underlying31
abbrev wf33 : (Vector Int 4) → Prop := (fun l : Vector Int 4 => ∀ a ∈ l.toList, wf31 a)
theorem op33 : Opens Try.prog 33 e33 wf33 := opens_array Try.underlying33 sz31 sz33 op31
abbrev wf5 : Int → Prop := (fun n : Int => (Lit.int .u8 n).wf = true)
theorem op5 : Opens Try.prog 5 eU8 wf5 := opens_int Try.underlying5
abbrev wf82 : S82 → Prop := (fun x : S82 => wf3 x.f0 ∧ wf33 x.f1)
theorem op82 : Opens Try.prog 82 e82 wf82 := (opens_struct Try.underlying82 sz82 (opensF_cons rfl sz3 (by decide) op3 (opensF_cons rfl sz33 (by decide) op33 (opensF_nil _)))).map (fun p => S82.mk p.1 p.2.1) (fun _ => rfl) (fun _ h => ⟨h.1, h.2.1⟩)
abbrev wf58 : (List S82) → Prop := (fun l : List S82 => l.length ≤ 9223372036854775807 ∧ ∀ a ∈ l, wf82 a)
theorem op58 : Opens Try.prog 58 e58 wf58 := opens_slice Try.underlying58 sz82 op82
end Go.Avl.T3
/- Ported: texts between quotes. -/
namespace Go.Avl.T3
open Go Go.RowKit Go.Proofs Go.Avl
set_option linter.all false
set_option maxRecDepth 10000

def U (a : Vector Int 4) : Prop := ∀ j : Nat, j < 4 → 0 ≤ vget a (j : Int) ∧ vget a (j : Int) < 18446744073709551616
def wd (a : Vector Int 4) (j : Nat) : Nat := (vget a (j : Int)).toNat
/-- Is a byte in a set? -/
def tb (a : Vector Int 4) (b : Nat) : Bool := (wd a (b / 64)).testBit (b % 64)
theorem wd_eq {a : Vector Int 4} (h : U a) (j : Nat) (hj : j < 4) : vget a (j : Int) = (wd a j : Int) ∧ wd a j < 18446744073709551616 := by
  have := h j hj
  unfold wd; omega
theorem vget_vset (v : Vector Int 4) (i j : Nat) (x : Int) (hi : i < 4) (hj : j < 4) : vget (vset v (i : Int) x) (j : Int) = if j = i then x else vget v (j : Int) := by
  unfold vget vset
  rw [Int.toNat_natCast, Int.toNat_natCast, Vector.toList_setIfInBounds, List.getD, List.getD, List.getElem?_set]
  by_cases e : i = j
  · subst e; rw [if_pos rfl, if_pos rfl, if_pos (by simpa using hi)]; rfl
  · rw [if_neg e, if_neg (fun h => e h.symm)]
theorem vext {a c : Vector Int 4} (h : ∀ j : Nat, j < 4 → vget a (j : Int) = vget c (j : Int)) : a = c := by
  apply Vector.toList_inj.1
  apply List.ext_getElem
  · simp
  · intro j h1 h2
    have hj : j < 4 := by simpa using h1
    have := h j hj
    unfold vget at this
    rw [Int.toNat_natCast, List.getD, List.getD, List.getElem?_eq_getElem h1, List.getElem?_eq_getElem h2] at this
    simpa using this
theorem ext_tb {a c : Vector Int 4} (ha : U a) (hc : U c) (h : ∀ b, b < 256 → tb a b = tb c b) : a = c := by
  apply vext
  intro j hj
  obtain ⟨e1, l1⟩ := wd_eq ha j hj
  obtain ⟨e2, l2⟩ := wd_eq hc j hj
  rw [e1, e2]
  congr 1
  apply Nat.eq_of_testBit_eq
  intro i
  by_cases hi : i < 64
  · have := h (64 * j + i) (by omega)
    unfold tb at this
    rwa [show (64 * j + i) / 64 = j by omega, show (64 * j + i) % 64 = i by omega] at this
  · have hp : 18446744073709551616 ≤ 2 ^ i := Nat.le_trans (by decide : 18446744073709551616 ≤ 2 ^ 64) (Nat.pow_le_pow_right (by omega) (by omega))
    rw [Nat.testBit_lt_two_pow (by omega), Nat.testBit_lt_two_pow (by omega)]
theorem U_zero : U (Vector.replicate 4 (0 : Int)) := by
  intro j hj
  have : vget (Vector.replicate 4 (0 : Int)) (j : Int) = 0 := by
    have : j = 0 ∨ j = 1 ∨ j = 2 ∨ j = 3 := by omega
    rcases this with rfl | rfl | rfl | rfl <;> rfl
  rw [this]; omega
theorem tb_zero (b : Nat) (hb : b < 256) : tb (Vector.replicate 4 (0 : Int)) b = false := by
  have hj : b / 64 < 4 := by omega
  have : vget (Vector.replicate 4 (0 : Int)) ((b / 64 : Nat) : Int) = 0 := by
    generalize b / 64 = j at hj
    have : j = 0 ∨ j = 1 ∨ j = 2 ∨ j = 3 := by omega
    rcases this with rfl | rfl | rfl | rfl <;> rfl
  unfold tb wd
  rw [this]; simp
theorem U_of {a : Vector Int 4} (h : wf33 a) : U a := by
  intro j hj
  have h1 : j < a.toList.length := by simpa using hj
  have h2 := h a.toList[j] (List.getElem_mem h1)
  have e : vget a (j : Int) = a.toList[j] := by
    unfold vget
    rw [Int.toNat_natCast, List.getD, List.getElem?_eq_getElem h1]; rfl
  rw [e]
  have h2' : (Lit.int .u64 a.toList[j]).wf = true := h2
  have : 0 ≤ a.toList[j] ∧ a.toList[j] ≤ 18446744073709551615 := by
    generalize a.toList[j] = z at h2'
    simpa [Lit.wf, show IntKind.u64.min = 0 from rfl, show IntKind.u64.max = 18446744073709551615 from rfl] using h2'
  omega
/-- One bit set in a word. -/
theorem or_bit {w : Nat} (hw : w < 18446744073709551616) {i : Nat} (hi : i < 64) : bits .or .u64 (w : Int) (IntKind.u64.wrap ((1 : Int) * 2 ^ (min i IntKind.u64.bits))) = ((w ||| 2 ^ i : Nat) : Int) ∧ w ||| 2 ^ i < 18446744073709551616 := by
  have hp : (2 : Nat) ^ i < 18446744073709551616 := Nat.lt_of_lt_of_le (Nat.pow_lt_pow_right (by omega) hi) (by decide : 2 ^ 64 ≤ 18446744073709551616)
  have e : IntKind.u64.wrap ((1 : Int) * 2 ^ (min i IntKind.u64.bits)) = ((2 ^ i : Nat) : Int) := by
    rw [show min i IntKind.u64.bits = i by show min i 64 = i; omega]
    have := u64_eq (1 * 2 ^ i)
    unfold u64 at this
    rw [this]
    have e3 : ((1 : Int) * 2 ^ i) = ((2 ^ i : Nat) : Int) := by simp
    rw [e3]
    generalize 2 ^ i = q at hp ⊢
    omega
  rw [e, bits_or_u64_nat w (2 ^ i) hw hp]
  exact ⟨rfl, Nat.or_lt_two_pow (n := 64) hw hp⟩
/-- A byte put into a set. -/
theorem put_bit {a : Vector Int 4} (h : U a) {b : Nat} (hb : b < 256) : ∀ c, c = vset a ((b / 64 : Nat) : Int) (bits .or .u64 (vget a ((b / 64 : Nat) : Int)) (IntKind.u64.wrap ((1 : Int) * 2 ^ (min (b % 64) IntKind.u64.bits)))) → U c ∧ ∀ x, x < 256 → tb c x = (tb a x || decide (x = b)) := by
  rintro c rfl
  have hj : b / 64 < 4 := by omega
  obtain ⟨e, l⟩ := wd_eq h (b / 64) hj
  obtain ⟨o1, o2⟩ := or_bit l (i := b % 64) (by omega)
  rw [e, o1]
  constructor
  · intro j hj'
    rw [vget_vset _ _ _ _ hj hj']
    split
    · omega
    · exact h j hj'
  · intro x hx
    unfold tb wd
    rw [vget_vset _ _ _ _ hj (by omega)]
    by_cases q : x / 64 = b / 64
    · rw [if_pos q, Int.toNat_natCast, Nat.testBit_or, Nat.testBit_two_pow, q]
      congr 1
      rw [decide_eq_decide]; omega
    · rw [if_neg q]
      have : decide (x = b) = false := decide_eq_false (fun e => q (by rw [e]))
      rw [this, Bool.or_false]
theorem shr_eq (x k : Nat) (hk : k ≤ 64) : Int.fdiv (x : Int) (2 ^ (min (k : Int).toNat IntKind.u64.bits)) = ((x / 2 ^ k : Nat) : Int) := by
  rw [Int.toNat_natCast, show min k IntKind.u64.bits = k by show min k 64 = k; omega, Int.fdiv_eq_ediv_of_nonneg _ (by exact_mod_cast Nat.zero_le _)]
  norm_cast
theorem ix_i64 (i : Nat) (hi : i < 100000) : IntKind.i64.wrap ((i : Int).tdiv 64) = ((i / 64 : Nat) : Int) := by
  have h1 : (i : Int).tdiv 64 = ((i / 64 : Nat) : Int) := by rw [Int.tdiv_eq_ediv_of_nonneg (by omega)]; omega
  rw [h1]; have := w64_id (n := ((i / 64 : Nat) : Int)) (by omega) (by omega); exact this
theorem ix_u64 (i : Nat) (hi : i < 100000) : u64 ((i : Int).tmod 64) = ((i % 64 : Nat) : Int) := by
  have h1 : (i : Int).tmod 64 = ((i % 64 : Nat) : Int) := by rw [Int.tmod_eq_emod_of_nonneg (by omega)]; omega
  rw [h1, u64_eq]; omega
theorem tmod64 (i : Nat) : (i : Int).tmod 64 = ((i % 64 : Nat) : Int) := by rw [Int.tmod_eq_emod_of_nonneg (by omega)]; omega
theorem ix_u8 (i : Nat) (hi : i < 256) : IntKind.u8.wrap ((i : Int).tdiv 64) = ((i / 64 : Nat) : Int) := by
  have h1 : (i : Int).tdiv 64 = ((i / 64 : Nat) : Int) := by rw [Int.tdiv_eq_ediv_of_nonneg (by omega)]; omega
  rw [h1]; have := w8_id (n := ((i / 64 : Nat) : Int)) (by omega) (by omega); exact this
theorem rhas_l (x : Nat) (hx : x < 256) : ∀ (m i fuel : Nat) (w : Nat), i + m = x % 64 → m < fuel → w < 18446744073709551616 →
    bosketref02_Has_l1 200000 (x : Int) fuel (w : Int) (i : Int) = some (w.testBit m)
  | 0, i, f + 1, w, h, _, hw => by
    rw [bosketref02_Has_l1.eq_2, tmod64, if_neg (by omega), bosketref02_Has_c0, Nat.testBit_zero]
    congr 1
    rw [decide_eq_decide, Int.tmod_eq_emod_of_nonneg (by omega)]; omega
  | m + 1, i, f + 1, w, h, hf, hw => by
    have e : IntKind.u64.wrap ((w : Int).tdiv 2) = ((w / 2 : Nat) : Int) := by
      rw [Int.tdiv_eq_ediv_of_nonneg (by omega)]
      have := u64_eq ((w : Int) / 2)
      unfold u64 at this
      rw [this]; omega
    rw [bosketref02_Has_l1.eq_2, tmod64, if_pos (by omega), e, w64_id (by omega) (by omega)]
    have := rhas_l x hx m (i + 1) f (w / 2) (by omega) (by omega) (by omega)
    rw [Nat.testBit_succ]
    exact_mod_cast this
theorem rhas_eq {a : Vector Int 4} (ha : U a) {x : Nat} (hx : x < 256) : bosketref02_Has 200000 a (x : Int) = some (tb a x) := by
  obtain ⟨e, l⟩ := wd_eq ha (x / 64) (by omega)
  unfold bosketref02_Has
  rw [ix_i64 x (by omega), if_pos ⟨by omega, by omega⟩, e]
  have := rhas_l x hx (x % 64) 0 200000 (wd a (x / 64)) (by omega) (by omega) l
  exact this
theorem has_eq {a : Vector Int 4} (ha : U a) {x : Nat} (hx : x < 256) : byteset_Has 200000 a (x : Int) = some (tb a x) := by
  obtain ⟨e, l⟩ := wd_eq ha (x / 64) (by omega)
  unfold byteset_Has
  rw [ix_u8 x hx, tmod64, if_pos ⟨by omega, by omega⟩, if_pos (by omega), e, shr_eq _ (x % 64) (by omega)]
  have hb := bits_and_u64_nat (wd a (x / 64) / 2 ^ (x % 64)) 1 (Nat.lt_of_le_of_lt (Nat.div_le_self _ _) l) (by omega)
  have hb' : bits .and .u64 ((wd a (x / 64) / 2 ^ (x % 64) : Nat) : Int) 1 = _ := hb
  rw [hb']
  unfold tb
  congr 1
  rw [Nat.and_one_is_mod]
  have h2 : (wd a (x / 64)).testBit (x % 64) = (wd a (x / 64) / 2 ^ (x % 64)).testBit 0 := by
    rw [Nat.testBit_div_two_pow, Nat.zero_add]
  rw [h2, Nat.testBit_zero, decide_eq_decide]
  omega
end Go.Avl.T3
/- Regular expressions behind their parts: as trees; their parts. -/
namespace Go.Avl.T3
open Go Go.RowKit Go.Proofs Go.Avl
set_option linter.all false
set_option maxRecDepth 10000

abbrev KK : Nat := 200000
def VZ : Vector Int 4 := Vector.replicate 4 (0 : Int)
inductive Rx where
  | non
  | one (s : Vector Int 4)
  | cat (a b : Rx)
  | alt (a b : Rx)
  | un (k : Int) (a : Rx)
def ser : Rx → List S82
  | .non => [S82.mk 0 VZ]
  | .one s => [S82.mk 1 s]
  | .cat a b => ser a ++ ser b ++ [S82.mk 2 VZ]
  | .alt a b => ser a ++ ser b ++ [S82.mk 3 VZ]
  | .un k a => ser a ++ [S82.mk k VZ]
def ROK : Rx → Prop
  | .non => True
  | .one s => U s ∧ s ≠ VZ
  | .cat a b => ROK a ∧ ROK b
  | .alt a b => ROK a ∧ ROK b
  | .un k a => 4 ≤ k ∧ k ≤ 6 ∧ ROK a
theorem ser_pos : ∀ t : Rx, 0 < (ser t).length
  | .non => by simp [ser]
  | .one _ => by simp [ser]
  | .cat a b => by simp [ser]; omega
  | .alt a b => by simp [ser]; omega
  | .un k a => by simp [ser]
def tk (k : Int) : Int := if k = 0 ∨ k = 1 then 0 else if k = 2 ∨ k = 3 then 2 else if k = 4 ∨ k = 5 ∨ k = 6 then 1 else -1
theorem takes_eq (K : Nat) (k : Int) : rex_Takes K k = some (tk k) := by
  unfold rex_Takes rex_Takes_c2 rex_Takes_c1 rex_Takes_c0 tk
  by_cases h0 : k = 0
  · subst h0; rfl
  by_cases h1 : k = 1
  · subst h1; rfl
  by_cases h2 : k = 2
  · subst h2; rfl
  by_cases h3 : k = 3
  · subst h3; rfl
  by_cases h4 : k = 4
  · subst h4; rfl
  by_cases h5 : k = 5
  · subst h5; rfl
  by_cases h6 : k = 6
  · subst h6; rfl
  simp [h0, h1, h2, h3, h4, h5, h6]
theorem rtakes_eq (K : Nat) (k : Int) : bosketref04_Takes K k = some (tk k) := by
  unfold bosketref04_Takes tk
  by_cases a : k < 0
  · rw [if_pos a, Option.bind_some, if_pos rfl, if_neg (by omega), if_neg (by omega), if_neg (by omega)]
  by_cases b : (6 : Int) < k
  · rw [if_neg a, Option.bind_some, if_pos (by simpa using b), if_neg (by omega), if_neg (by omega), if_neg (by omega)]
  rw [if_neg a, Option.bind_some, if_neg (by simpa using b), if_pos ⟨by omega, by simp; omega⟩]
  have : k = 0 ∨ k = 1 ∨ k = 2 ∨ k = 3 ∨ k = 4 ∨ k = 5 ∨ k = 6 := by omega
  rcases this with rfl | rfl | rfl | rfl | rfl | rfl | rfl <;> rfl
theorem w6 {x : Int} (h0 : -1000000000000 ≤ x) (h1 : x ≤ 1000000000000) : w64 x = x := w64_id (by omega) (by omega)
theorem pget (l : List S82) (i : Nat) (h : i < l.length) : lget l (i : Int) = l[i] := by simp [lget, List.getD, List.getElem?_eq_getElem h]
theorem pget_at (pre : List S82) (p : S82) (post : List S82) : lget (pre ++ p :: post) (pre.length : Int) = p := by
  rw [pget _ _ (by simp)]; simp
/-- A stack of trees, the last one ahead. -/
def fl : List Rx → List S82
  | [] => []
  | t :: st => fl st ++ ser t
/-- May a piece stand behind so many? -/
def pOK (n : Int) (p : S82) : Bool := !(decide (tk p.f0 < 0) || decide (n < tk p.f0) || (decide (p.f0 = 1) == decide (p.f1 = VZ)))
theorem step_stk {st : List Rx} (hst : ∀ t ∈ st, ROK t) {p : S82} (hu : U p.f1) (h : pOK (st.length : Int) p = true) :
    ∃ st', (∀ t ∈ st', ROK t) ∧ fl st' = fl st ++ [p] ∧ (st'.length : Int) = st.length - tk p.f0 + 1 := by
  obtain ⟨k, s⟩ := p
  simp only [pOK, Bool.not_eq_true', Bool.or_eq_false_iff, decide_eq_false_iff_not] at h
  obtain ⟨⟨h1, h2⟩, h3⟩ := h
  have hz : k ≠ 1 → s = VZ := by
    intro hk
    have : (false == decide (s = VZ)) = false := by rwa [decide_eq_false hk] at h3
    by_cases q : s = VZ
    · exact q
    · rw [decide_eq_false q] at this; cases this
  have hk : k = 0 ∨ k = 1 ∨ k = 2 ∨ k = 3 ∨ k = 4 ∨ k = 5 ∨ k = 6 := by
    unfold tk at h1
    split at h1
    · omega
    · split at h1
      · omega
      · split at h1
        · omega
        · exact absurd (by decide) h1
  have un : ∀ k' : Int, 4 ≤ k' → k' ≤ 6 → k = k' → tk k = 1 → ∃ st', (∀ t ∈ st', ROK t) ∧ fl st' = fl st ++ [S82.mk k s] ∧ (st'.length : Int) = st.length - tk k + 1 := by
    intro k' a b e et
    cases st with
    | nil => rw [et] at h2; simp at h2
    | cons t st =>
      refine ⟨.un k t :: st, fun u hu => ?_, ?_, ?_⟩
      · rcases List.mem_cons.1 hu with rfl | hu
        · exact ⟨by omega, by omega, hst t (by simp)⟩
        · exact hst u (by simp [hu])
      · rw [hz (by omega)]; simp [fl, ser]
      · rw [et]; simp
  rcases hk with rfl | rfl | rfl | rfl | rfl | rfl | rfl
  · refine ⟨.non :: st, fun u hu => ?_, by rw [hz (by decide)]; rfl, by simp [tk]⟩
    rcases List.mem_cons.1 hu with rfl | hu
    · trivial
    · exact hst u hu
  · refine ⟨.one s :: st, fun u hu' => ?_, rfl, by simp [tk]⟩
    rcases List.mem_cons.1 hu' with rfl | hu'
    · refine ⟨hu, fun e => ?_⟩
      rw [decide_eq_true e] at h3; cases h3
    · exact hst u hu'
  · match st, hst, h2 with
    | [], _, h2 => simp [tk] at h2
    | [_], _, h2 => simp [tk] at h2
    | b :: a :: st, hst, _ =>
      refine ⟨.cat a b :: st, fun u hu => ?_, by rw [hz (by decide)]; simp [fl, ser], by simp [tk]; omega⟩
      rcases List.mem_cons.1 hu with rfl | hu
      · exact ⟨hst a (by simp), hst b (by simp)⟩
      · exact hst u (by simp [hu])
  · match st, hst, h2 with
    | [], _, h2 => simp [tk] at h2
    | [_], _, h2 => simp [tk] at h2
    | b :: a :: st, hst, _ =>
      refine ⟨.alt a b :: st, fun u hu => ?_, by rw [hz (by decide)]; simp [fl, ser], by simp [tk]; omega⟩
      rcases List.mem_cons.1 hu with rfl | hu
      · exact ⟨hst a (by simp), hst b (by simp)⟩
      · exact hst u (by simp [hu])
  · exact un 4 (by omega) (by omega) rfl rfl
  · exact un 5 (by omega) (by omega) rfl rfl
  · exact un 6 (by omega) (by omega) rfl rfl
theorem tk_le (k : Int) : -1 ≤ tk k ∧ tk k ≤ 2 := by unfold tk; repeat (first | omega | split)
theorem check_l (p : List S82) (hp : p.length ≤ 400) (hu : ∀ x ∈ p, U x.f1) : ∀ (m i fuel : Nat) (st : List Rx), i + m = p.length → m < fuel → fl st = p.take i → (∀ t ∈ st, ROK t) → st.length ≤ i →
    ∃ c, rex_Check_l1 KK p fuel (st.length : Int) (i : Int) = some c ∧ bosketref04_Check_l1 KK p fuel (st.length : Int) (i : Int) = some c ∧ (c = 0 → ∃ t, ROK t ∧ p = ser t)
  | 0, i, f + 1, st, hi, _, hfl, hst, hz => by
    rw [rex_Check_l1.eq_2, bosketref04_Check_l1.eq_2, if_neg (by omega), if_neg (by omega)]
    unfold rex_Check_c0 bosketref04_Check_c0
    by_cases a : (st.length : Int) = 1
    · rw [if_neg (by simpa using a)]
      refine ⟨0, rfl, rfl, fun _ => ?_⟩
      match st, a with
      | [t], _ =>
        rw [List.take_of_length_le (by omega)] at hfl
        exact ⟨t, hst t (by simp), by rw [← hfl]; simp [fl]⟩
    · rw [if_pos a]
      exact ⟨5, rfl, rfl, fun e => by cases e⟩
  | m + 1, i, f + 1, st, hi, hf, hfl, hst, hz => by
    have hi' : i < p.length := by omega
    have g : 0 ≤ (i : Int) ∧ (i : Int) < (p.length : Int) := ⟨by omega, by omega⟩
    have htk := tk_le p[i].f0
    rw [rex_Check_l1.eq_2, bosketref04_Check_l1.eq_2, if_pos g.2, if_pos g, if_pos g.2, if_pos g, pget p i hi', takes_eq, rtakes_eq, Option.bind_some, Option.bind_some, if_pos g, if_pos g]
    unfold byteset_Empty
    rw [Option.bind_some]
    have key : ∀ n : Int, (if tk p[i].f0 < 0 then some true else if n < tk p[i].f0 then some true else some (decide (p[i].f0 = 1) == decide (p[i].f1 = Vector.replicate 4 (0 : Int)))) = some (!pOK n p[i]) := by
      intro n
      unfold pOK
      by_cases a : tk p[i].f0 < 0
      · rw [if_pos a, decide_eq_true a]; rfl
      · rw [if_neg a, decide_eq_false a]
        by_cases b : n < tk p[i].f0
        · rw [if_pos b, decide_eq_true b]; rfl
        · rw [if_neg b, decide_eq_false b]; simp only [Bool.false_or, Bool.not_not]; rfl
    rw [key, Option.bind_some, Option.bind_some]
    cases e : pOK (st.length : Int) p[i] with
    | false => exact ⟨5, rfl, rfl, fun e => by cases e⟩
    | true =>
      obtain ⟨st', s1, s2, s3⟩ := step_stk hst (hu _ (List.getElem_mem hi')) e
      have s4 : (st'.length : Int) ≤ (i : Int) + 1 := by
        have : 0 ≤ tk p[i].f0 := by
          simp only [pOK, Bool.not_eq_true', Bool.or_eq_false_iff, decide_eq_false_iff_not] at e
          omega
        omega
      obtain ⟨c, c1, c2, c3⟩ := check_l p hp hu m (i + 1) f st' (by omega) (by omega) (by rw [s2, hfl]; exact List.take_append_getElem hi') s1 (by omega)
      rw [if_neg (by decide), if_neg (by decide), w6 (x := 1 - tk p[i].f0) (by omega) (by omega), w6 (x := (st.length : Int) + (1 - tk p[i].f0)) (by omega) (by omega), w6 (x := (st.length : Int) - tk p[i].f0) (by omega) (by omega), w6 (x := (st.length : Int) - tk p[i].f0 + 1) (by omega) (by omega), w6 (x := (i : Int) + 1) (by omega) (by omega),
        show (st.length : Int) + (1 - tk p[i].f0) = (st'.length : Int) by omega, show (st.length : Int) - tk p[i].f0 + 1 = (st'.length : Int) by omega, show (i : Int) + 1 = ((i + 1 : Nat) : Int) by omega]
      exact ⟨c, c1, c2, c3⟩
/-- Both checks; what passes is a tree's text. -/
theorem check_eq (p : List S82) (hp : p.length ≤ 400) (hu : ∀ x ∈ p, U x.f1) : ∃ c, rex_Check KK p = some c ∧ bosketref04_Check KK p = some c ∧ (c = 0 → ∃ t, ROK t ∧ p = ser t) := by
  unfold rex_Check bosketref04_Check
  rw [if_neg (by omega), if_neg (by omega)]
  exact check_l p hp hu p.length 0 KK [] (by omega) (by show p.length < 200000; omega) rfl (fun t ht => by cases ht) (by simp)
/-! Where a part begins. -/
theorem start_scan (p0 : List S82) (hz : p0.length ≤ 1000000) : ∀ (t : Rx), ROK t → ∀ (pre post : List S82) (need : Int) (f : Nat), p0 = pre ++ ser t ++ post → 1 ≤ need → need ≤ 1000000000 - (ser t).length →
    rex_Start_l1 KK p0 (f + (ser t).length) need ((pre.length : Int) + (ser t).length - 1) = (if need = 1 then some (pre.length : Int) else rex_Start_l1 KK p0 f (need - 1) ((pre.length : Int) - 1)) ∧
    bosketref04_Start_l1 KK p0 (f + (ser t).length) need ((pre.length : Int) + (ser t).length - 1) = (if need = 1 then some (pre.length : Int) else bosketref04_Start_l1 KK p0 f (need - 1) ((pre.length : Int) - 1)) := by
  -- one piece back
  have back : ∀ (pre : List S82) (p : S82) (post : List S82) (need : Int) (f : Nat), p0 = pre ++ p :: post → 1 ≤ need → need ≤ 1000000000 → 0 ≤ tk p.f0 →
      rex_Start_l1 KK p0 (f + 1) need (pre.length : Int) = (if need - 1 + tk p.f0 = 0 then some (pre.length : Int) else rex_Start_l1 KK p0 f (need - 1 + tk p.f0) ((pre.length : Int) - 1)) ∧
      bosketref04_Start_l1 KK p0 (f + 1) need (pre.length : Int) = (if need - 1 + tk p.f0 = 0 then some (pre.length : Int) else bosketref04_Start_l1 KK p0 f (need - 1 + tk p.f0) ((pre.length : Int) - 1)) := by
    intro pre p post need f e h1 h2 h3
    have hl : pre.length < p0.length := by rw [e]; simp
    have htk := tk_le p.f0
    have hg : lget p0 (pre.length : Int) = p := by rw [e]; exact pget_at pre p post
    have g0 : (0 : Int) ≤ (pre.length : Int) := by omega
    have g1 : 0 ≤ (pre.length : Int) ∧ (pre.length : Int) < (p0.length : Int) := ⟨by omega, by omega⟩
    constructor
    · rw [rex_Start_l1.eq_2, if_pos g0, if_pos g1, hg, takes_eq, Option.bind_some, w6 (x := tk p.f0 - 1) (by omega) (by omega), w6 (x := need + (tk p.f0 - 1)) (by omega) (by omega), w6 (x := (pre.length : Int) - 1) (by omega) (by omega), show need + (tk p.f0 - 1) = need - 1 + tk p.f0 by omega]
    · rw [bosketref04_Start_l1.eq_2, if_pos g0, if_pos g1, hg, rtakes_eq, Option.bind_some, w6 (x := need - 1) (by omega) (by omega), w6 (x := need - 1 + tk p.f0) (by omega) (by omega), w6 (x := (pre.length : Int) - 1) (by omega) (by omega)]
  intro t
  have two : ∀ (k : Int) (a b : Rx), tk k = 2 → (∀ (pre post : List S82) (need : Int) (f : Nat), p0 = pre ++ ser a ++ post → 1 ≤ need → need ≤ 1000000000 - (ser a).length →
    rex_Start_l1 KK p0 (f + (ser a).length) need ((pre.length : Int) + (ser a).length - 1) = (if need = 1 then some (pre.length : Int) else rex_Start_l1 KK p0 f (need - 1) ((pre.length : Int) - 1)) ∧
    bosketref04_Start_l1 KK p0 (f + (ser a).length) need ((pre.length : Int) + (ser a).length - 1) = (if need = 1 then some (pre.length : Int) else bosketref04_Start_l1 KK p0 f (need - 1) ((pre.length : Int) - 1))) →
    (∀ (pre post : List S82) (need : Int) (f : Nat), p0 = pre ++ ser b ++ post → 1 ≤ need → need ≤ 1000000000 - (ser b).length →
    rex_Start_l1 KK p0 (f + (ser b).length) need ((pre.length : Int) + (ser b).length - 1) = (if need = 1 then some (pre.length : Int) else rex_Start_l1 KK p0 f (need - 1) ((pre.length : Int) - 1)) ∧
    bosketref04_Start_l1 KK p0 (f + (ser b).length) need ((pre.length : Int) + (ser b).length - 1) = (if need = 1 then some (pre.length : Int) else bosketref04_Start_l1 KK p0 f (need - 1) ((pre.length : Int) - 1))) →
    ∀ (pre post : List S82) (need : Int) (f : Nat), p0 = pre ++ (ser a ++ ser b ++ [S82.mk k VZ]) ++ post → 1 ≤ need → need ≤ 1000000000 - (ser a ++ ser b ++ [S82.mk k VZ]).length →
    rex_Start_l1 KK p0 (f + (ser a ++ ser b ++ [S82.mk k VZ]).length) need ((pre.length : Int) + (ser a ++ ser b ++ [S82.mk k VZ]).length - 1) = (if need = 1 then some (pre.length : Int) else rex_Start_l1 KK p0 f (need - 1) ((pre.length : Int) - 1)) ∧
    bosketref04_Start_l1 KK p0 (f + (ser a ++ ser b ++ [S82.mk k VZ]).length) need ((pre.length : Int) + (ser a ++ ser b ++ [S82.mk k VZ]).length - 1) = (if need = 1 then some (pre.length : Int) else bosketref04_Start_l1 KK p0 f (need - 1) ((pre.length : Int) - 1)) := by
    intro k a b hk iha ihb pre post need f e h1 h2
    have hla := ser_pos a
    have hlb := ser_pos b
    have hlen : (ser a ++ ser b ++ [S82.mk k VZ]).length = (ser a).length + (ser b).length + 1 := by simp only [List.length_append, List.length_cons, List.length_nil]
    rw [hlen] at h2 ⊢
    have b1 := back (pre ++ ser a ++ ser b) (S82.mk k VZ) post need (f + (ser a).length + (ser b).length) (by rw [e]; simp) h1 (by omega) (by rw [hk]; omega)
    rw [hk, if_neg (by omega), if_neg (by omega)] at b1
    have b2 := ihb (pre ++ ser a) (S82.mk k VZ :: post) (need - 1 + 2) (f + (ser a).length) (by rw [e]; simp) (by omega) (by omega)
    rw [if_neg (by omega), if_neg (by omega)] at b2
    have b3 := iha pre (ser b ++ S82.mk k VZ :: post) need f (by rw [e]; simp) h1 (by omega)
    have i1 : ((pre ++ ser a ++ ser b).length : Int) = (pre.length : Int) + (((ser a).length + (ser b).length + 1 : Nat) : Int) - 1 := by simp only [List.length_append, List.length_cons, List.length_nil]; omega
    have i2 : ((pre ++ ser a ++ ser b).length : Int) - 1 = ((pre ++ ser a).length : Int) + (ser b).length - 1 := by simp only [List.length_append, List.length_cons, List.length_nil]; omega
    have i3 : ((pre ++ ser a).length : Int) - 1 = (pre.length : Int) + (ser a).length - 1 := by simp only [List.length_append, List.length_cons, List.length_nil]; omega
    have i4 : need - 1 + 2 - 1 = need := by omega
    rw [i2] at b1
    rw [i1] at b1
    rw [i3, i4] at b2
    rw [show f + ((ser a).length + (ser b).length + 1) = f + (ser a).length + (ser b).length + 1 by omega]
    exact ⟨b1.1.trans (b2.1.trans b3.1), b1.2.trans (b2.2.trans b3.2)⟩
  induction t with
  | non =>
    intro _ pre post need f e h1 h2
    have := back pre (S82.mk 0 VZ) post need f (by rw [e]; simp [ser]) h1 (by simp [ser] at h2; omega) (by decide)
    have e0 : need - 1 + tk 0 = need - 1 := by rw [show tk 0 = 0 from rfl]; omega
    rw [e0] at this
    have i1 : (pre.length : Int) + ((ser .non).length : Int) - 1 = (pre.length : Int) := by simp [ser]
    rw [i1]
    by_cases q : need = 1
    · rw [if_pos q, if_pos q]; rw [if_pos (by omega), if_pos (by omega)] at this; exact this
    · rw [if_neg q, if_neg q]; rw [if_neg (by omega), if_neg (by omega)] at this; exact this
  | one s =>
    intro _ pre post need f e h1 h2
    have := back pre (S82.mk 1 s) post need f (by rw [e]; simp [ser]) h1 (by simp [ser] at h2; omega) (by show 0 ≤ tk 1; decide)
    have e0 : need - 1 + tk (S82.mk 1 s).f0 = need - 1 := by rw [show tk (S82.mk 1 s).f0 = 0 from rfl]; omega
    rw [e0] at this
    have i1 : (pre.length : Int) + ((ser (.one s)).length : Int) - 1 = (pre.length : Int) := by simp [ser]
    rw [i1]
    by_cases q : need = 1
    · rw [if_pos q, if_pos q]; rw [if_pos (by omega), if_pos (by omega)] at this; exact this
    · rw [if_neg q, if_neg q]; rw [if_neg (by omega), if_neg (by omega)] at this; exact this
  | cat a b iha ihb =>
    intro hok pre post need f e h1 h2
    exact two 2 a b rfl (iha hok.1) (ihb hok.2) pre post need f e h1 h2
  | alt a b iha ihb =>
    intro hok pre post need f e h1 h2
    exact two 3 a b rfl (iha hok.1) (ihb hok.2) pre post need f e h1 h2
  | un k a iha =>
    intro hok pre post need f e h1 h2
    have hk : tk k = 1 := by
      have : k = 4 ∨ k = 5 ∨ k = 6 := by have := hok.1; have := hok.2.1; omega
      rcases this with rfl | rfl | rfl <;> rfl
    have hla := ser_pos a
    have hlen : (ser (.un k a)).length = (ser a).length + 1 := by simp [ser]
    rw [hlen] at h2 ⊢
    have b1 := back (pre ++ ser a) (S82.mk k VZ) post need (f + (ser a).length) (by rw [e]; simp [ser]) h1 (by omega) (by show 0 ≤ tk k; omega)
    rw [show tk (S82.mk k VZ).f0 = 1 from hk, if_neg (by omega), if_neg (by omega), show need - 1 + 1 = need by omega] at b1
    have b3 := iha hok.2.2 pre (S82.mk k VZ :: post) need f (by rw [e]; simp [ser]) h1 (by omega)
    have i1 : ((pre ++ ser a).length : Int) = (pre.length : Int) + (((ser a).length + 1 : Nat) : Int) - 1 := by simp only [List.length_append, List.length_cons, List.length_nil]; omega
    have i3 : ((pre ++ ser a).length : Int) - 1 = (pre.length : Int) + (ser a).length - 1 := by simp only [List.length_append, List.length_cons, List.length_nil]; omega
    rw [i3] at b1
    rw [i1] at b1
    rw [show f + ((ser a).length + 1) = f + (ser a).length + 1 by omega]
    exact ⟨b1.1.trans b3.1, b1.2.trans b3.2⟩
theorem start_eq {p0 : List S82} (hz : p0.length ≤ 100000) {t : Rx} (ht : ROK t) {pre post : List S82} (e : p0 = pre ++ ser t ++ post) :
    rex_Start KK p0 ((pre.length : Int) + (ser t).length - 1) = some (pre.length : Int) ∧ bosketref04_Start KK p0 ((pre.length : Int) + (ser t).length - 1) = some (pre.length : Int) := by
  have hl : (ser t).length ≤ p0.length := by rw [e]; simp; omega
  have := start_scan p0 (by omega) t ht pre post 1 (KK - (ser t).length) e (by omega) (by omega)
  rw [if_pos rfl, if_pos rfl, show KK - (ser t).length + (ser t).length = KK by show 200000 - _ + _ = 200000; omega] at this
  exact this
/-! Parts. -/
def parts : Rx → List (List S82)
  | .cat a b => [ser a, ser b]
  | .alt a b => [ser a, ser b]
  | .un _ a => [ser a]
  | _ => []
def kind : Rx → Int
  | .non => 0
  | .one _ => 1
  | .cat _ _ => 2
  | .alt _ _ => 3
  | .un k _ => k
theorem last_ix {t : Rx} (hz : (ser t).length ≤ 100000) : w64 (((ser t).length : Int) - 1) = (((ser t).length - 1 : Nat) : Int) := by
  have := ser_pos t
  rw [w6 (by omega) (by omega)]; omega
def setOf : Rx → Vector Int 4
  | .one s => s
  | _ => VZ
theorem last_get : ∀ (t : Rx), lget (ser t) (((ser t).length - 1 : Nat) : Int) = S82.mk (kind t) (setOf t)
  | .non => rfl
  | .one s => rfl
  | .cat a b => by
    have : (ser (.cat a b)).length - 1 = (ser a ++ ser b).length := by simp [ser]
    rw [this]; exact pget_at (ser a ++ ser b) _ []
  | .alt a b => by
    have : (ser (.alt a b)).length - 1 = (ser a ++ ser b).length := by simp [ser]
    rw [this]; exact pget_at (ser a ++ ser b) _ []
  | .un k a => by
    have : (ser (.un k a)).length - 1 = (ser a).length := by simp [ser]
    rw [this]; exact pget_at (ser a) _ []
theorem lcut_mid (a b c : List S82) : lcut (a ++ b ++ c) (a.length : Int) ((a.length + b.length : Nat) : Int) = b := by
  unfold lcut
  rw [Int.toNat_natCast, Int.toNat_natCast, List.take_append_of_le_length (by simp), List.take_of_length_le (by simp), List.drop_left]
theorem lcut_pre (a b : List S82) : lcut (a ++ b) 0 (a.length : Int) = a := by
  unfold lcut
  rw [Int.toNat_natCast, List.take_left]; rfl
theorem clone_eq (l : List S82) (hz : l.length ≤ 1000000) : slices_Clone_api_Regex_api_Piece_ KK l = some l ∧ slices_Clone_api_Regex_api_Piece__own KK l = some l := by
  unfold slices_Clone_api_Regex_api_Piece_ slices_Clone_api_Regex_api_Piece__own
  rw [List.nil_append, if_pos (by omega)]; exact ⟨rfl, rfl⟩
theorem parts_eq {t : Rx} (ht : ROK t) (hz : (ser t).length ≤ 100000) : rex_Parts KK (ser t) = some (parts t) := by
  have hp := ser_pos t
  have hx := last_ix hz
  unfold rex_Parts
  rw [if_neg (by omega), hx, if_pos ⟨by omega, by omega⟩, last_get, takes_eq, Option.bind_some]
  have two : ∀ (k : Int) (a b : Rx), ROK a → ROK b → ser t = ser a ++ ser b ++ [S82.mk k VZ] → (rex_Start KK (ser t) (w64 (((ser t).length : Int) - 2))).bind (fun t12 =>
      if 0 ≤ (0 : Int) ∧ (0 : Int) ≤ t12 ∧ t12 ≤ ((ser t).length : Int) then (slices_Clone_api_Regex_api_Piece_ KK (lcut (ser t) (0 : Int) t12)).bind fun t14 =>
      if 0 ≤ t12 ∧ t12 ≤ (((ser t).length - 1 : Nat) : Int) ∧ (((ser t).length - 1 : Nat) : Int) ≤ ((ser t).length : Int) then (slices_Clone_api_Regex_api_Piece_ KK (lcut (ser t) t12 (((ser t).length - 1 : Nat) : Int))).bind fun t16 => some [t14, t16] else none else none) = some [ser a, ser b] := by
    intro k a b ha hb e
    have hlen : (ser t).length = (ser a).length + (ser b).length + 1 := by rw [e]; simp only [List.length_append, List.length_cons, List.length_nil]
    have hla := ser_pos a
    have hlb := ser_pos b
    have hs := start_eq (p0 := ser t) hz hb (pre := ser a) (post := [S82.mk k VZ]) (by rw [e])
    rw [w6 (x := ((ser t).length : Int) - 2) (by omega) (by omega), show ((ser t).length : Int) - 2 = ((ser a).length : Int) + (ser b).length - 1 by omega, hs.1, Option.bind_some, if_pos ⟨by omega, by omega, by omega⟩]
    have c1 : lcut (ser t) 0 ((ser a).length : Int) = ser a := by rw [e, List.append_assoc]; exact lcut_pre (ser a) _
    have c2 : lcut (ser t) ((ser a).length : Int) (((ser t).length - 1 : Nat) : Int) = ser b := by
      rw [show (ser t).length - 1 = (ser a).length + (ser b).length by omega, e]; exact lcut_mid (ser a) (ser b) _
    rw [c1, c2, (clone_eq (ser a) (by omega)).1, Option.bind_some, if_pos ⟨by omega, by omega, by omega⟩, (clone_eq (ser b) (by omega)).1]; rfl
  cases t with
  | non => rfl
  | one s => rfl
  | cat a b =>
    show (if tk 2 = 1 then _ else if tk 2 = 2 then _ else _) = _
    rw [if_neg (by decide), if_pos (by decide)]
    exact two 2 a b ht.1 ht.2 rfl
  | alt a b =>
    show (if tk 3 = 1 then _ else if tk 3 = 2 then _ else _) = _
    rw [if_neg (by decide), if_pos (by decide)]
    exact two 3 a b ht.1 ht.2 rfl
  | un k a =>
    have hk : tk k = 1 := by
      have : k = 4 ∨ k = 5 ∨ k = 6 := by have := ht.1; have := ht.2.1; omega
      rcases this with rfl | rfl | rfl <;> rfl
    show (if tk k = 1 then _ else if tk k = 2 then _ else _) = _
    have hlen : (ser (.un k a)).length - 1 = (ser a).length := by simp [ser]
    have hlen2 : (ser (.un k a)).length = (ser a).length + 1 := by simp [ser]
    rw [if_pos hk, hlen, if_pos ⟨by omega, by omega, by omega⟩]
    have c1 : lcut (ser (.un k a)) 0 ((ser a).length : Int) = ser a := lcut_pre (ser a) _
    rw [c1, (clone_eq (ser a) (by omega)).2]; rfl
theorem rparts_eq {t : Rx} (ht : ROK t) (hz : (ser t).length ≤ 100000) : bosketref04_Parts KK (ser t) = some (parts t) := by
  have hp := ser_pos t
  have hx := last_ix hz
  unfold bosketref04_Parts
  rw [hx, if_pos ⟨by omega, by omega⟩, last_get, rtakes_eq, Option.bind_some]
  have stop : ∀ (f : Nat) (acc : List (List S82)) (x : Int), bosketref04_Parts_l1 KK (ser t) (f + 1) acc x 0 = some acc := by
    intro f acc x
    rw [bosketref04_Parts_l1.eq_2, if_neg (by omega), bosketref04_Parts_c0]
  have go : ∀ (f : Nat) (acc : List (List S82)) (n : Int) (pre post : List S82) (a : Rx), ROK a → ser t = pre ++ ser a ++ post → acc.length ≤ 10 → 0 < n → n ≤ 2 →
      bosketref04_Parts_l1 KK (ser t) (f + 1) acc ((pre.length + (ser a).length : Nat) : Int) n = bosketref04_Parts_l1 KK (ser t) f ([ser a] ++ acc) (pre.length : Int) (n - 1) := by
    intro f acc n pre post a ha e hl h0 h2
    have hlen : (ser t).length = pre.length + (ser a).length + post.length := by rw [e]; simp; omega
    have hla := ser_pos a
    have hs := start_eq (p0 := ser t) hz ha e
    have c2 : lcut (ser t) (pre.length : Int) ((pre.length + (ser a).length : Nat) : Int) = ser a := by rw [e]; exact lcut_mid pre (ser a) _
    rw [bosketref04_Parts_l1.eq_2, if_pos h0, w6 (x := ((pre.length + (ser a).length : Nat) : Int) - 1) (by omega) (by omega), show ((pre.length + (ser a).length : Nat) : Int) - 1 = (pre.length : Int) + (ser a).length - 1 by omega, hs.2, Option.bind_some, if_pos ⟨by omega, by omega, by omega⟩, c2, if_pos (by simp; omega), w6 (x := n - 1) (by omega) (by omega)]
  have two : ∀ (k : Int) (a b : Rx), ROK a → ROK b → ser t = ser a ++ ser b ++ [S82.mk k VZ] → bosketref04_Parts_l1 KK (ser t) KK [] (((ser t).length - 1 : Nat) : Int) 2 = some [ser a, ser b] := by
    intro k a b ha hb e
    have hlen : (ser t).length - 1 = (ser a).length + (ser b).length := by rw [e]; simp
    rw [hlen]
    have g1 := go 199999 [] 2 (ser a) [S82.mk k VZ] b hb (by rw [e]) (by simp) (by omega) (by omega)
    have g2 := go 199998 [ser b] (2 - 1) [] (ser b ++ [S82.mk k VZ]) a ha (by rw [e]; simp) (by simp) (by omega) (by omega)
    refine g1.trans ?_
    rw [List.append_nil]
    have i0 : ((([] : List S82).length + (ser a).length : Nat) : Int) = ((ser a).length : Int) := by simp
    rw [i0] at g2
    refine g2.trans ?_
    exact stop 199997 _ _
  cases t with
  | non => exact stop 199999 _ _
  | one s => exact stop 199999 _ _
  | cat a b => exact two 2 a b ht.1 ht.2 rfl
  | alt a b => exact two 3 a b ht.1 ht.2 rfl
  | un k a =>
    have hk : tk k = 1 := by
      have : k = 4 ∨ k = 5 ∨ k = 6 := by have := ht.1; have := ht.2.1; omega
      rcases this with rfl | rfl | rfl <;> rfl
    show bosketref04_Parts_l1 KK (ser (.un k a)) KK [] (((ser (.un k a)).length - 1 : Nat) : Int) (tk k) = _
    have hlen : (ser (.un k a)).length - 1 = ([] : List S82).length + (ser a).length := by simp [ser]
    rw [hk, hlen]
    refine (go 199999 [] 1 [] [S82.mk k VZ] a ht.2.2 (by simp [ser]) (by simp) (by omega) (by omega)).trans ?_
    exact stop 199998 _ _
end Go.Avl.T3
/- Ported: texts between quotes. -/
namespace Go.Avl.T3
open Go Go.RowKit Go.Proofs Go.Avl
set_option linter.all false
set_option maxRecDepth 10000

theorem or_l (p1 : Vector Int 4) (h1 : U p1) : ∀ (m i fuel : Nat) (a : Vector Int 4), i + m = 4 → m < fuel → U a →
    ∃ c, byteset_Or_l1 200000 p1 fuel a i = some c ∧ U c ∧ ∀ j : Nat, j < 4 → wd c j = if i ≤ j then wd a j ||| wd p1 j else wd a j
  | 0, i, f + 1, a, h, _, ha => by
    rw [byteset_Or_l1.eq_2, if_neg (by omega), byteset_Or_c0]
    exact ⟨a, rfl, ha, fun j hj => by rw [if_neg (by omega)]⟩
  | m + 1, i, f + 1, a, h, hf, ha => by
    have hi : i < 4 := by omega
    have g : 0 ≤ (i : Int) ∧ (i : Int) < 4 := ⟨by omega, by omega⟩
    obtain ⟨e1, l1⟩ := wd_eq ha i hi
    obtain ⟨e2, l2⟩ := wd_eq h1 i hi
    have ho : bits .or .u64 (vget a (i : Int)) (vget p1 (i : Int)) = ((wd a i ||| wd p1 i : Nat) : Int) := by rw [e1, e2, bits_or_u64_nat _ _ l1 l2]
    have hlt : wd a i ||| wd p1 i < 18446744073709551616 := Nat.or_lt_two_pow (n := 64) l1 l2
    have hU : U (vset a (i : Int) ((wd a i ||| wd p1 i : Nat) : Int)) := by
      intro j hj
      rw [vget_vset _ _ _ _ hi hj]
      split
      · omega
      · exact ha j hj
    obtain ⟨c, c1, c2, c3⟩ := or_l p1 h1 m (i + 1) f (vset a (i : Int) ((wd a i ||| wd p1 i : Nat) : Int)) (by omega) (by omega) hU
    rw [byteset_Or_l1.eq_2, if_pos g.2, if_pos g, if_pos g, if_pos g, ho, w64_id (by omega) (by omega)]
    refine ⟨c, by exact_mod_cast c1, c2, fun j hj => ?_⟩
    rw [c3 j hj]
    have hw : wd (vset a (i : Int) ((wd a i ||| wd p1 i : Nat) : Int)) j = if j = i then wd a i ||| wd p1 i else wd a j := by
      unfold wd
      rw [vget_vset _ _ _ _ hi hj]
      by_cases q : j = i
      · rw [if_pos q, if_pos q, Int.toNat_natCast]
      · rw [if_neg q, if_neg q]
    rw [hw]
    by_cases q : j = i
    · subst q; rw [if_neg (by omega), if_pos rfl, if_pos (by omega)]
    · rw [if_neg q]
      by_cases r : i + 1 ≤ j
      · rw [if_pos r, if_pos (by omega)]
      · rw [if_neg r, if_neg (by omega)]
theorem or_eq {a b : Vector Int 4} (ha : U a) (hb : U b) : ∃ c, byteset_Or 200000 a b = some c ∧ U c ∧ ∀ x, x < 256 → tb c x = (tb a x || tb b x) := by
  obtain ⟨c, c1, c2, c3⟩ := or_l b hb 4 0 200000 a (by omega) (by omega) ha
  refine ⟨c, c1, c2, fun x hx => ?_⟩
  unfold tb
  rw [c3 _ (by omega), if_pos (by omega), Nat.testBit_or]
theorem rof_l (L : List Bool) : ∀ (m i fuel : Nat) (a : Vector Int 4), i + m = min 256 L.length → m < fuel → U a → (∀ x, x < 256 → i ≤ x → tb a x = false) →
    ∃ c, bosketref02_Of_l2 200000 L fuel a i = some c ∧ U c ∧ ∀ x, x < 256 → tb c x = (tb a x || (decide (i ≤ x) && L.getD x false))
  | 0, i, f + 1, a, h, _, ha, hz => by
    rw [bosketref02_Of_l2.eq_2]
    have hb : (if (i : Int) < 256 then some (decide ((i : Int) < (L.length : Int))) else some false) = some false := by
      by_cases q : (i : Int) < 256
      · rw [if_pos q, decide_eq_false (by omega)]
      · rw [if_neg q]
    rw [hb, Option.bind_some, if_neg (by decide), bosketref02_Of_c0]
    refine ⟨a, rfl, ha, fun x hx => ?_⟩
    by_cases q : i ≤ x
    · rw [decide_eq_true q, Bool.true_and, List.getD, List.getElem?_eq_none (by omega)]; simp
    · rw [decide_eq_false q]; simp
  | m + 1, i, f + 1, a, h, hf, ha, hz => by
    have hi : i < 256 := by omega
    have hl : i < L.length := by omega
    have g : 0 ≤ (i : Int) ∧ (i : Int) < (L.length : Int) := ⟨by omega, by omega⟩
    have eb : lget L (i : Int) = L[i] := by
      unfold lget; rw [show (i : Int).toNat = i by omega, List.getD, List.getElem?_eq_getElem hl]; rfl
    have eg : L.getD i false = L[i] := by rw [List.getD, List.getElem?_eq_getElem hl]; rfl
    rw [bosketref02_Of_l2.eq_2, if_pos (show (i : Int) < 256 by omega), decide_eq_true g.2, Option.bind_some, if_pos rfl, if_pos g, eb]
    by_cases q : L[i] = true
    · obtain ⟨e, l⟩ := wd_eq ha (i / 64) (by omega)
      have hsmall : wd a (i / 64) < 2 ^ (i % 64) := by
        apply Nat.lt_pow_two_of_testBit
        intro t ht
        by_cases r : t < 64
        · have := hz (64 * (i / 64) + t) (by omega) (by omega)
          unfold tb at this
          rwa [show (64 * (i / 64) + t) / 64 = i / 64 by omega, show (64 * (i / 64) + t) % 64 = t by omega] at this
        · have hp : 18446744073709551616 ≤ 2 ^ t := Nat.le_trans (by decide : 18446744073709551616 ≤ 2 ^ 64) (Nat.pow_le_pow_right (by omega) (by omega))
          exact Nat.testBit_lt_two_pow (by omega)
      have hpw : (2 : Nat) ^ (i % 64) < 18446744073709551616 := Nat.lt_of_lt_of_le (Nat.pow_lt_pow_right (by omega) (by omega : i % 64 < 64)) (by decide : 2 ^ 64 ≤ 18446744073709551616)
      obtain ⟨o1, o2⟩ := or_bit l (i := i % 64) (by omega)
      have hsum : wd a (i / 64) ||| 2 ^ (i % 64) = 2 ^ (i % 64) + wd a (i / 64) := by
        have := Nat.two_pow_add_eq_or_of_lt hsmall 1
        rw [Nat.mul_one] at this
        rw [this, Nat.or_comm]
      have e5 : IntKind.u64.wrap ((1 : Int) * 2 ^ (min (i % 64) IntKind.u64.bits)) = ((2 ^ (i % 64) : Nat) : Int) := by
        rw [show min (i % 64) IntKind.u64.bits = i % 64 by show min (i % 64) 64 = i % 64; omega]
        have := u64_eq (1 * 2 ^ (i % 64))
        unfold u64 at this
        rw [this]
        have e3 : ((1 : Int) * 2 ^ (i % 64)) = ((2 ^ (i % 64) : Nat) : Int) := by simp
        rw [e3]
        generalize 2 ^ (i % 64) = q at hpw ⊢
        omega
      have e6 : u64 (vget a ((i / 64 : Nat) : Int) + IntKind.u64.wrap ((1 : Int) * 2 ^ (min (i % 64) IntKind.u64.bits))) = bits .or .u64 (vget a ((i / 64 : Nat) : Int)) (IntKind.u64.wrap ((1 : Int) * 2 ^ (min (i % 64) IntKind.u64.bits))) := by
        rw [e, o1, e5, hsum, u64_eq]
        generalize 2 ^ (i % 64) = q at *
        omega
      obtain ⟨p1, p2⟩ := put_bit ha hi _ rfl
      obtain ⟨c, c1, c2, c3⟩ := rof_l L m (i + 1) f _ (by omega) (by omega) p1 (fun x hx hxi => by rw [p2 x hx, hz x hx (by omega), decide_eq_false (by omega)]; rfl)
      rw [if_pos q, ix_i64 i (by omega), ix_u64 i (by omega), if_pos ⟨by omega, by omega⟩, if_pos (by omega), if_pos ⟨by omega, by omega⟩, Int.toNat_natCast, e6]
      unfold bosketref02_Of_c1
      rw [w64_id (by omega) (by omega)]
      refine ⟨c, by exact_mod_cast c1, c2, fun x hx => ?_⟩
      rw [c3 x hx, p2 x hx]
      by_cases r : x = i
      · subst r
        rw [decide_eq_true rfl, decide_eq_true (Nat.le_refl _), eg, q]; simp
      · rw [decide_eq_false r, Bool.or_false]
        congr 2
        rw [decide_eq_decide]; omega
    · rw [if_neg q]
      unfold bosketref02_Of_c1
      rw [w64_id (by omega) (by omega)]
      obtain ⟨c, c1, c2, c3⟩ := rof_l L m (i + 1) f a (by omega) (by omega) ha (fun x hx hxi => hz x hx (by omega))
      refine ⟨c, by exact_mod_cast c1, c2, fun x hx => ?_⟩
      rw [c3 x hx]
      by_cases r : x = i
      · subst r
        rw [decide_eq_false (by omega), decide_eq_true (Nat.le_refl _), eg, Bool.eq_false_iff.2 q]; rfl
      · congr 2
        rw [decide_eq_decide]; omega
theorem rof_eq (L : List Bool) : ∃ c, bosketref02_Of 200000 L = some c ∧ U c ∧ ∀ x, x < 256 → tb c x = L.getD x false := by
  obtain ⟨c, c1, c2, c3⟩ := rof_l L (min 256 L.length) 0 200000 _ (by omega) (by omega) U_zero (fun x hx _ => tb_zero x hx)
  refine ⟨c, c1, c2, fun x hx => ?_⟩
  rw [c3 x hx, tb_zero x hx, decide_eq_true (Nat.zero_le _)]; simp
def opb (o : Int) (s t : Bool) : Bool := if o = 0 then s || t else if o = 1 then s && t else if o = 2 then s && !t else !s
theorem rput_l (o : Int) {a b : Vector Int 4} (ha : U a) (hb : U b) : ∀ (m i fuel : Nat) (acc : List Bool), i + m = 256 → m < fuel → acc.length = i → (∀ x, x < i → acc.getD x false = opb o (tb a x) (tb b x)) →
    ∃ L : List Bool, bosketref02_Put_l2 200000 o a b fuel acc i = bosketref02_Put_c0 200000 L ∧ ∀ x, x < 256 → L.getD x false = opb o (tb a x) (tb b x)
  | 0, i, f + 1, acc, h, _, hl, hz => by
    rw [bosketref02_Put_l2.eq_2, if_neg (by omega)]
    exact ⟨acc, rfl, fun x hx => hz x (by omega)⟩
  | m + 1, i, f + 1, acc, h, hf, hl, hz => by
    have hi : i < 256 := by omega
    have next : ∀ v, v = opb o (tb a i) (tb b i) → ∃ L : List Bool, bosketref02_Put_c1 200000 (bosketref02_Put_l2 200000 o a b f) (i : Int) (acc ++ [v]) = bosketref02_Put_c0 200000 L ∧ ∀ x, x < 256 → L.getD x false = opb o (tb a x) (tb b x) := by
      intro v hv
      unfold bosketref02_Put_c1
      rw [w64_id (by omega) (by omega)]
      have := rput_l o ha hb m (i + 1) f (acc ++ [v]) (by omega) (by omega) (by simp; omega) (fun x hx => by
        by_cases q : x < i
        · rw [List.getD, List.getElem?_append_left (by omega)]
          have := hz x q
          rw [List.getD] at this
          exact this
        · have e : x = i := by omega
          subst e
          rw [List.getD, List.getElem?_append_right (by omega), hl, Nat.sub_self, ← hv]; rfl)
      exact_mod_cast this
    have hlen : ∀ v : Bool, (acc ++ [v]).length * 1 ≤ 140737488355328 := by intro v; simp; omega
    rw [bosketref02_Put_l2.eq_2, if_pos (by omega), rhas_eq ha hi, Option.bind_some, rhas_eq hb hi, Option.bind_some]
    by_cases o0 : o = 0
    · rw [if_pos o0]
      cases q : tb a i with
      | true => rw [if_pos rfl, if_pos (hlen _)]; exact next _ (by unfold opb; rw [if_pos o0, q]; rfl)
      | false => rw [if_neg (by decide), if_pos (hlen _)]; exact next _ (by unfold opb; rw [if_pos o0, q]; rfl)
    · rw [if_neg o0]
      by_cases o1 : o = 1
      · rw [if_pos o1]
        cases q : tb a i with
        | true => rw [if_pos rfl, if_pos (hlen _)]; exact next _ (by unfold opb; rw [if_neg o0, if_pos o1, q]; rfl)
        | false => rw [if_neg (by decide), if_pos (hlen _)]; exact next _ (by unfold opb; rw [if_neg o0, if_pos o1, q]; rfl)
      · rw [if_neg o1]
        by_cases o2 : o = 2
        · rw [if_pos o2]
          cases q : tb a i with
          | true => rw [if_pos rfl, if_pos (hlen _)]; exact next _ (by unfold opb; rw [if_neg o0, if_neg o1, if_pos o2, q]; rfl)
          | false => rw [if_neg (by decide), if_pos (hlen _)]; exact next _ (by unfold opb; rw [if_neg o0, if_neg o1, if_pos o2, q]; rfl)
        · rw [if_neg o2, if_pos (hlen _)]
          exact next _ (by unfold opb; rw [if_neg o0, if_neg o1, if_neg o2])
theorem rput_eq (o : Int) {a b : Vector Int 4} (ha : U a) (hb : U b) : ∃ c, bosketref02_Put 200000 o a b = some c ∧ U c ∧ ∀ x, x < 256 → tb c x = opb o (tb a x) (tb b x) := by
  obtain ⟨L, l1, l2⟩ := rput_l o ha hb 256 0 200000 [] (by omega) (by omega) rfl (fun x hx => by omega)
  obtain ⟨c, c1, c2, c3⟩ := rof_eq L
  refine ⟨c, ?_, c2, fun x hx => by rw [c3 x hx, l2 x hx]⟩
  have e : bosketref02_Put 200000 o a b = bosketref02_Put_l2 200000 o a b 200000 [] ((0 : Nat) : Int) := rfl
  rw [e, l1, bosketref02_Put_c0, c1]; rfl
end Go.Avl.T3
/- Regular expressions as trees: empty, first bytes, what is left behind a byte. -/
namespace Go.Avl.T3
open Go Go.RowKit Go.Proofs Go.Avl
set_option linter.all false
set_option maxRecDepth 10000

def nul : Rx → Bool
  | .non => true
  | .one _ => false
  | .cat a b => nul a && nul b
  | .alt a b => nul a || nul b
  | .un k a => if k = 5 then nul a else true
def fbit : Rx → Nat → Bool
  | .non, _ => false
  | .one s, x => tb s x
  | .cat a b, x => fbit a x || (nul a && fbit b x)
  | .alt a b, x => fbit a x || fbit b x
  | .un _ a, x => fbit a x
theorem bget {α : Type} [Inhabited α] (l : List α) (x : α) (m : List α) : lget (l ++ x :: m) (l.length : Int) = x := by
  unfold lget
  rw [Int.toNat_natCast, List.getD, List.getElem?_append_right (Nat.le_refl _)]; simp
theorem bget1 {α : Type} [Inhabited α] (l : List α) (x y : α) : lget (l ++ [x, y]) ((l.length : Int) + 1) = y := by
  have := bget (l ++ [x]) y []
  rw [List.append_assoc] at this
  have e : ((l ++ [x]).length : Int) = (l.length : Int) + 1 := by simp
  rw [e] at this
  exact this
theorem bset {α : Type} (l : List α) (x y : α) : lset (l ++ [x]) (l.length : Int) y = l ++ [y] := by
  unfold lset
  rw [Int.toNat_natCast, List.set_append_right _ _ (Nat.le_refl _)]; simp
theorem btake {α : Type} (l : List α) (m : List α) : (l ++ m).take l.length = l := List.take_left ..
theorem emp_scan (p0 : List S82) (hz : p0.length ≤ 1000000) : ∀ (t : Rx), ROK t → ∀ (pre post : List S82) (st : List Bool) (f : Nat), p0 = pre ++ ser t ++ post → st.length + (ser t).length ≤ 2000000 →
    deriv_Empty_l3 KK p0 (f + (ser t).length) st (pre.length : Int) = deriv_Empty_l3 KK p0 f (st ++ [nul t]) ((pre.length + (ser t).length : Nat) : Int) := by
  have one : ∀ (pre : List S82) (p : S82) (post : List S82) (f : Nat) (st : List Bool), p0 = pre ++ p :: post →
      deriv_Empty_l3 KK p0 (f + 1) st (pre.length : Int) = (if p.f0 = 0 then if (st ++ ([true] : List Bool)).length * 1 ≤ 140737488355328 then deriv_Empty_l3 KK p0 f (st ++ [true]) ((pre.length + 1 : Nat) : Int) else none
        else if p.f0 = 1 then if (st ++ ([false] : List Bool)).length * 1 ≤ 140737488355328 then deriv_Empty_l3 KK p0 f (st ++ [false]) ((pre.length + 1 : Nat) : Int) else none
        else deriv_Empty_l3 KK p0 (f + 1) st (pre.length : Int)) := by
    intro pre p post f st e
    have hl : pre.length < p0.length := by rw [e]; simp
    have hg : lget p0 (pre.length : Int) = p := by rw [e]; exact pget_at pre p post
    by_cases h0 : p.f0 = 0
    · rw [if_pos h0, deriv_Empty_l3.eq_2, if_pos (by omega), if_pos ⟨by omega, by omega⟩, hg, if_pos h0]
      unfold deriv_Empty_c1
      rw [w6 (by omega) (by omega)]; rfl
    · rw [if_neg h0]
      by_cases h1 : p.f0 = 1
      · rw [if_pos h1, deriv_Empty_l3.eq_2, if_pos (by omega), if_pos ⟨by omega, by omega⟩, hg, if_neg h0, if_pos h1]
        unfold deriv_Empty_c1
        rw [w6 (by omega) (by omega)]; rfl
      · rw [if_neg h1]
  have two : ∀ (pre : List S82) (p : S82) (post : List S82) (f : Nat) (st : List Bool) (x y : Bool), p0 = pre ++ p :: post → st.length ≤ 2000000 → (p.f0 = 2 ∨ p.f0 = 3) →
      deriv_Empty_l3 KK p0 (f + 1) (st ++ [x, y]) (pre.length : Int) = deriv_Empty_l3 KK p0 f (st ++ [if p.f0 = 2 then x && y else x || y]) ((pre.length + 1 : Nat) : Int) := by
    intro pre p post f st x y e hs hk
    have hl : pre.length < p0.length := by rw [e]; simp
    have hg : lget p0 (pre.length : Int) = p := by rw [e]; exact pget_at pre p post
    have i2 : w64 (((st ++ [x, y]).length : Int) - 2) = (st.length : Int) := by rw [w6 (by simp only [List.length_append, List.length_cons, List.length_nil]; omega) (by simp only [List.length_append, List.length_cons, List.length_nil]; omega)]; simp only [List.length_append, List.length_cons, List.length_nil]; omega
    have i1 : w64 (((st ++ [x, y]).length : Int) - 1) = (st.length : Int) + 1 := by rw [w6 (by simp only [List.length_append, List.length_cons, List.length_nil]; omega) (by simp only [List.length_append, List.length_cons, List.length_nil]; omega)]; simp only [List.length_append, List.length_cons, List.length_nil]; omega
    have g2 : lget (st ++ [x, y]) (st.length : Int) = x := bget st x [y]
    have g1 : lget (st ++ [x, y]) ((st.length : Int) + 1) = y := bget1 st x y
    have tk2 : (st ++ [x, y]).take (st.length : Int).toNat = st := by rw [Int.toNat_natCast]; exact btake st _
    have b0 : 0 ≤ (st.length : Int) ∧ (st.length : Int) ≤ ((st ++ [x, y]).length : Int) := ⟨by omega, by simp; omega⟩
    have b1 : 0 ≤ (st.length : Int) ∧ (st.length : Int) < ((st ++ [x, y]).length : Int) := ⟨by omega, by simp; omega⟩
    have b2 : 0 ≤ (st.length : Int) + 1 ∧ (st.length : Int) + 1 < ((st ++ [x, y]).length : Int) := ⟨by omega, by simp only [List.length_append, List.length_cons, List.length_nil]; omega⟩
    have hlen : ∀ z : Bool, (st ++ ([z] : List Bool)).length * 1 ≤ 140737488355328 := fun z => by simp; omega
    rw [deriv_Empty_l3.eq_2, if_pos (by omega), if_pos ⟨by omega, by omega⟩, hg]
    unfold deriv_Empty_c1
    rw [i1, i2, g1, g2, tk2, w6 (x := (pre.length : Int) + 1) (by omega) (by omega)]
    rcases hk with hk | hk
    · have er : (if p.f0 = 2 then x && y else x || y) = (x && y) := if_pos hk
      rw [er, if_neg (by omega), if_neg (by omega), if_pos hk, if_pos b0, if_pos b1]
      cases x with
      | true => rw [if_pos rfl, if_pos b2, if_pos (hlen _)]; rfl
      | false => rw [if_neg (by decide), if_pos (hlen _)]; rfl
    · have er : (if p.f0 = 2 then x && y else x || y) = (x || y) := if_neg (by omega)
      rw [er, if_neg (by omega), if_neg (by omega), if_neg (by omega), if_pos hk, if_pos b0, if_pos b1]
      cases x with
      | true => rw [if_pos rfl, if_pos (hlen _)]; rfl
      | false => rw [if_neg (by decide), if_pos b2, if_pos (hlen _)]; rfl
  have top : ∀ (pre : List S82) (p : S82) (post : List S82) (f : Nat) (st : List Bool) (x : Bool), p0 = pre ++ p :: post → st.length ≤ 2000000 → (p.f0 = 4 ∨ p.f0 = 5 ∨ p.f0 = 6) →
      deriv_Empty_l3 KK p0 (f + 1) (st ++ [x]) (pre.length : Int) = deriv_Empty_l3 KK p0 f (st ++ [if p.f0 = 5 then x else true]) ((pre.length + 1 : Nat) : Int) := by
    intro pre p post f st x e hs hk
    have hl : pre.length < p0.length := by rw [e]; simp
    have hg : lget p0 (pre.length : Int) = p := by rw [e]; exact pget_at pre p post
    have i1 : w64 (((st ++ [x]).length : Int) - 1) = (st.length : Int) := by rw [w6 (by simp only [List.length_append, List.length_cons, List.length_nil]; omega) (by simp only [List.length_append, List.length_cons, List.length_nil]; omega)]; simp only [List.length_append, List.length_cons, List.length_nil]; omega
    have b1 : 0 ≤ (st.length : Int) ∧ (st.length : Int) < ((st ++ [x]).length : Int) := ⟨by omega, by simp only [List.length_append, List.length_cons, List.length_nil]; omega⟩
    rw [deriv_Empty_l3.eq_2, if_pos (by omega), if_pos ⟨by omega, by omega⟩, hg, if_neg (by omega), if_neg (by omega), if_neg (by omega), if_neg (by omega)]
    unfold deriv_Empty_c2 deriv_Empty_c1
    rw [i1, bset, w6 (x := (pre.length : Int) + 1) (by omega) (by omega)]
    rcases hk with hk | hk | hk
    · have er : (if p.f0 = 5 then x else true) = true := if_neg (by omega)
      rw [er, if_pos hk, if_pos (decide_eq_true hk), if_pos b1]; rfl
    · have er : (if p.f0 = 5 then x else true) = x := if_pos hk
      rw [er, if_neg (by omega), if_neg (by simp; omega)]; rfl
    · have er : (if p.f0 = 5 then x else true) = true := if_neg (by omega)
      rw [er, if_neg (by omega), if_pos (decide_eq_true hk), if_pos b1]; rfl
  intro t
  induction t with
  | non =>
    intro _ pre post st f e hs
    refine (one pre (S82.mk 0 VZ) post f st (by rw [e]; simp [ser])).trans ?_
    rw [if_pos rfl, if_pos (by simp [ser] at hs ⊢; omega)]; rfl
  | one s =>
    intro _ pre post st f e hs
    refine (one pre (S82.mk 1 s) post f st (by rw [e]; simp [ser])).trans ?_
    rw [if_neg (by show ¬ ((1 : Int) = 0); decide), if_pos rfl, if_pos (by simp [ser] at hs ⊢; omega)]; rfl
  | cat a b iha ihb =>
    intro hok pre post st f e hs
    have hlen : (ser (.cat a b)).length = (ser a).length + (ser b).length + 1 := by simp only [ser, List.length_append, List.length_cons, List.length_nil]
    have h1 := iha hok.1 pre (ser b ++ S82.mk 2 VZ :: post) st (f + 1 + (ser b).length) (by rw [e]; simp [ser]) (by omega)
    have h2 := ihb hok.2 (pre ++ ser a) (S82.mk 2 VZ :: post) (st ++ [nul a]) (f + 1) (by rw [e]; simp [ser]) (by simp; omega)
    have h3 := two (pre ++ ser a ++ ser b) (S82.mk 2 VZ) post f st (nul a) (nul b) (by rw [e]; simp [ser]) (by omega) (.inl rfl)
    rw [hlen, show f + ((ser a).length + (ser b).length + 1) = f + 1 + (ser b).length + (ser a).length by omega]
    rw [List.length_append] at h2
    rw [List.append_assoc st] at h2
    rw [show (pre ++ ser a ++ ser b).length = pre.length + (ser a).length + (ser b).length by simp; omega] at h3
    rw [show pre.length + ((ser a).length + (ser b).length + 1) = pre.length + (ser a).length + (ser b).length + 1 by omega, h1, h2]
    refine h3.trans ?_
    rw [if_pos (by rfl)]; rfl
  | alt a b iha ihb =>
    intro hok pre post st f e hs
    have hlen : (ser (.alt a b)).length = (ser a).length + (ser b).length + 1 := by simp only [ser, List.length_append, List.length_cons, List.length_nil]
    have h1 := iha hok.1 pre (ser b ++ S82.mk 3 VZ :: post) st (f + 1 + (ser b).length) (by rw [e]; simp [ser]) (by omega)
    have h2 := ihb hok.2 (pre ++ ser a) (S82.mk 3 VZ :: post) (st ++ [nul a]) (f + 1) (by rw [e]; simp [ser]) (by simp; omega)
    have h3 := two (pre ++ ser a ++ ser b) (S82.mk 3 VZ) post f st (nul a) (nul b) (by rw [e]; simp [ser]) (by omega) (.inr rfl)
    rw [hlen, show f + ((ser a).length + (ser b).length + 1) = f + 1 + (ser b).length + (ser a).length by omega]
    rw [List.length_append] at h2
    rw [List.append_assoc st] at h2
    rw [show (pre ++ ser a ++ ser b).length = pre.length + (ser a).length + (ser b).length by simp; omega] at h3
    rw [show pre.length + ((ser a).length + (ser b).length + 1) = pre.length + (ser a).length + (ser b).length + 1 by omega, h1, h2]
    refine h3.trans ?_
    rw [if_neg (by show ¬ ((3 : Int) = 2); decide)]; rfl
  | un k a iha =>
    intro hok pre post st f e hs
    have hk : k = 4 ∨ k = 5 ∨ k = 6 := by have := hok.1; have := hok.2.1; omega
    have hlen : (ser (.un k a)).length = (ser a).length + 1 := by simp [ser]
    have h1 := iha hok.2.2 pre (S82.mk k VZ :: post) st (f + 1) (by rw [e]; simp [ser]) (by omega)
    have h3 := top (pre ++ ser a) (S82.mk k VZ) post f st (nul a) (by rw [e]; simp [ser]) (by omega) hk
    rw [hlen, show f + ((ser a).length + 1) = f + 1 + (ser a).length by omega]
    rw [show (pre ++ ser a).length = pre.length + (ser a).length by simp] at h3
    rw [show pre.length + ((ser a).length + 1) = pre.length + (ser a).length + 1 by omega, h1]
    exact h3
theorem empty_eq {t : Rx} (ht : ROK t) (hz : (ser t).length ≤ 100000) : deriv_Empty KK (ser t) = some (nul t) := by
  have := emp_scan (ser t) (by omega) t ht [] [] [] (KK - (ser t).length) (by simp) (by simp; omega)
  rw [show KK - (ser t).length + (ser t).length = KK by show 200000 - _ + _ = 200000; omega] at this
  unfold deriv_Empty
  refine this.trans ?_
  obtain ⟨f, hf⟩ : ∃ f, KK - (ser t).length = f + 1 := ⟨KK - (ser t).length - 1, by show 200000 - _ = 200000 - _ - 1 + 1; omega⟩
  rw [hf, deriv_Empty_l3.eq_2, if_neg (by simp)]
  unfold deriv_Empty_c0
  rw [List.nil_append, if_pos (by simp), if_pos ⟨by omega, by simp⟩]; rfl
end Go.Avl.T3
/- Regular expressions as trees: what is left behind a byte. -/
namespace Go.Avl.T3
open Go Go.RowKit Go.Proofs Go.Avl
set_option linter.all false
set_option maxRecDepth 10000

/-! What is left behind a byte. -/
def catL : Option Rx → Option Rx → Option Rx
  | some .non, some y => some y
  | some x, some .non => some x
  | some x, some y => some (.cat x y)
  | _, _ => none
noncomputable def altL : Option Rx → Option Rx → Option Rx
  | none, y => y
  | some x, none => some x
  | some x, some y => if ser x = ser y then some x else some (.alt x y)
noncomputable def dv (b : Nat) : Rx → Option Rx
  | .non => none
  | .one s => if tb s b = true then some .non else none
  | .cat x y => if nul x = true then altL (catL (dv b x) (some y)) (dv b y) else catL (dv b x) (some y)
  | .alt x y => altL (dv b x) (dv b y)
  | .un k x => if k = 6 then dv b x else catL (dv b x) (some (.un 4 x))
def enL : Option Rx → S62
  | none => S62.mk true []
  | some t => S62.mk false (ser t)
def sz : Option Rx → Nat
  | none => 0
  | some t => (ser t).length
theorem ser_one {t : Rx} (h : (ser t).length = 1) : (lget (ser t) 0).f0 = 0 ↔ t = .non := by
  cases t with
  | non => exact ⟨fun _ => rfl, fun _ => rfl⟩
  | one s => exact ⟨fun e => by simp [ser, lget] at e, fun e => by cases e⟩
  | cat a b => have := ser_pos a; have := ser_pos b; simp only [ser, List.length_append, List.length_cons, List.length_nil] at h; omega
  | alt a b => have := ser_pos a; have := ser_pos b; simp only [ser, List.length_append, List.length_cons, List.length_nil] at h; omega
  | un k a => have := ser_pos a; simp only [ser, List.length_append, List.length_cons, List.length_nil] at h; omega
noncomputable instance : DecidableEq Rx := fun a b => Classical.propDecidable _
theorem catL_def (x y : Rx) : catL (some x) (some y) = if x = .non then some y else if y = .non then some x else some (.cat x y) := by
  cases x <;> cases y <;> simp [catL]
theorem join2_l (f : Nat) (k : Int) (a b : List S82) (h : a.length + b.length ≤ 1000000) : rex_Join_l1 KK k [a, b] (f + 1 + 1 + 1) [] 0 = some (a ++ b ++ [S82.mk k VZ]) := by
  have g : (([a, b] : List (List S82)).length : Int) = 2 := rfl
  rw [rex_Join_l1.eq_2, g, if_pos (by omega), if_pos (by omega), show lget [a, b] (0 : Int) = a from rfl, if_pos (by simp; omega), show w64 (0 + 1) = (1 : Int) from w6 (by omega) (by omega)]
  rw [rex_Join_l1.eq_2, g, if_pos (by omega), if_pos (by omega), show lget [a, b] (1 : Int) = b from rfl, if_pos (by simp; omega), show w64 (1 + 1) = (2 : Int) from w6 (by omega) (by omega)]
  rw [rex_Join_l1.eq_2, g, if_neg (by omega), rex_Join_c0, if_pos (by simp; omega), List.nil_append]; rfl
theorem join1_l (f : Nat) (k : Int) (a : List S82) (h : a.length ≤ 1000000) : rex_Join_l1 KK k [a] (f + 1 + 1) [] 0 = some (a ++ [S82.mk k VZ]) := by
  have g : (([a] : List (List S82)).length : Int) = 1 := rfl
  rw [rex_Join_l1.eq_2, g, if_pos (by omega), if_pos (by omega), show lget [a] (0 : Int) = a from rfl, if_pos (by simp; omega), show w64 (0 + 1) = (1 : Int) from w6 (by omega) (by omega)]
  rw [rex_Join_l1.eq_2, g, if_neg (by omega), rex_Join_c0, if_pos (by simp; omega), List.nil_append]; rfl
theorem join2 (k : Int) (hk : k = 2 ∨ k = 3) (a b : List S82) (h : a.length + b.length ≤ 1000000) : rex_Join KK k [a, b] = some (a ++ b ++ [S82.mk k VZ]) := by
  have ht : tk k = 2 := by rcases hk with rfl | rfl <;> rfl
  have g : (([a, b] : List (List S82)).length : Int) = 2 := rfl
  unfold rex_Join
  rw [takes_eq, Option.bind_some, ht, g, if_neg (by decide), Option.bind_some, if_neg (by decide)]
  exact join2_l 199997 k a b h
theorem join1 (k : Int) (hk : k = 4 ∨ k = 5 ∨ k = 6) (a : List S82) (h : a.length ≤ 1000000) : rex_Join KK k [a] = some (a ++ [S82.mk k VZ]) := by
  have ht : tk k = 1 := by rcases hk with rfl | rfl | rfl <;> rfl
  have g : (([a] : List (List S82)).length : Int) = 1 := rfl
  unfold rex_Join
  rw [takes_eq, Option.bind_some, ht, g, if_neg (by decide), Option.bind_some, if_neg (by decide)]
  exact join1_l 199998 k a h
end Go.Avl.T3
/- Regular expressions as trees: what is left behind a byte. -/
namespace Go.Avl.T3
open Go Go.RowKit Go.Proofs Go.Avl
set_option linter.all false
set_option maxRecDepth 10000
theorem cat_eq {x y : Option Rx} (hz : sz x + sz y ≤ 1000000) : deriv_cat KK (enL x) (enL y) = some (enL (catL x y)) := by
  unfold deriv_cat
  cases x with
  | none => cases y <;> rfl
  | some x =>
    cases y with
    | none => cases x <;> rfl
    | some y =>
      have hz' : (ser x).length + (ser y).length ≤ 1000000 := hz
      show (if (false : Bool) = true then some true else some (false : Bool)).bind _ = _
      rw [if_neg (by decide), Option.bind_some, if_neg (by decide), catL_def]
      have key : ∀ z : Rx, (if (((enL (some z)).f1).length : Int) = 1 then if 0 ≤ (0 : Int) ∧ (0 : Int) < (((enL (some z)).f1).length : Int) then some (decide ((lget ((enL (some z)).f1) (0 : Int)).f0 = 0)) else none else some false) = some (decide (z = .non)) := by
        intro z
        show (if ((ser z).length : Int) = 1 then if 0 ≤ (0 : Int) ∧ (0 : Int) < ((ser z).length : Int) then some (decide ((lget (ser z) (0 : Int)).f0 = 0)) else none else some false) = some (decide (z = .non))
        by_cases a : (ser z).length = 1
        · rw [if_pos (by omega), if_pos ⟨by omega, by omega⟩]
          congr 1
          rw [decide_eq_decide]; exact ser_one a
        · rw [if_neg (by omega), decide_eq_false (fun e => by subst e; exact a rfl)]
      rw [key x, Option.bind_some]
      by_cases a : x = .non
      · rw [if_pos (decide_eq_true a), if_pos a]
      · rw [if_neg (by simpa using a), if_neg a, key y, Option.bind_some]
        by_cases b : y = .non
        · rw [if_pos (decide_eq_true b), if_pos b]
        · rw [if_neg (by simpa using b), if_neg b, show (enL (some x)).f1 = ser x from rfl, show (enL (some y)).f1 = ser y from rfl, join2 2 (.inl rfl) _ _ hz']; rfl
theorem same_l2 (l m : List S82) (hl : l.length = m.length) (hz : l.length ≤ 190000) : ∀ (k i fuel : Nat), i + k = l.length → k < fuel → slices_Equal_api_Regex_api_Piece__l1 KK l m fuel (i : Int) = some (decide (l.drop i = m.drop i))
  | 0, i, f + 1, hi, _ => by
    rw [slices_Equal_api_Regex_api_Piece__l1.eq_2, if_neg (by omega), List.drop_of_length_le (by omega), List.drop_of_length_le (by omega)]; rfl
  | k + 1, i, f + 1, hi, hf => by
    have h1 : i < l.length := by omega
    have h2 : i < m.length := by omega
    have ih := same_l2 l m hl hz k (i + 1) f (by omega) (by omega)
    rw [slices_Equal_api_Regex_api_Piece__l1.eq_2, if_pos (by omega), if_pos ⟨by omega, by omega⟩, if_pos ⟨by omega, by omega⟩, pget l i h1, pget m i h2, w6 (by omega) (by omega), List.drop_eq_getElem_cons h1, List.drop_eq_getElem_cons h2]
    by_cases e : l[i] = m[i]
    · rw [if_neg (by simp [e])]
      have : decide (l[i] :: l.drop (i + 1) = m[i] :: m.drop (i + 1)) = decide (l.drop (i + 1) = m.drop (i + 1)) := by rw [e, decide_eq_decide]; exact ⟨fun k => (List.cons.inj k).2, fun k => by rw [k]⟩
      rw [this]; exact_mod_cast ih
    · rw [if_pos (by simp [e]), decide_eq_false (fun k => e (List.cons.inj k).1)]
theorem rsame_eq (l m : List S82) (hz : l.length ≤ 190000) : rex_Same KK l m = some (decide (l = m)) := by
  unfold rex_Same slices_Equal_api_Regex_api_Piece_
  by_cases a : (l.length : Int) = (m.length : Int)
  · rw [if_neg (by simpa using a)]
    have := same_l2 l m (by omega) hz l.length 0 KK (by omega) (by show _ < 200000; omega)
    rw [List.drop_zero, List.drop_zero, Int.natCast_zero] at this
    rw [this]; rfl
  · rw [if_pos a, decide_eq_false (fun e => a (by rw [e]))]; rfl
theorem alt_eq {x y : Option Rx} (hz : sz x ≤ 190000 ∧ sz y ≤ 190000) : deriv_alt KK (enL x) (enL y) = some (enL (altL x y)) := by
  unfold deriv_alt
  cases x with
  | none => rfl
  | some x =>
    cases y with
    | none => rfl
    | some y =>
      have h1 : (ser x).length ≤ 190000 := hz.1
      have h2 : (ser y).length ≤ 190000 := hz.2
      have fx : ¬ (enL (some x)).f0 = true := Bool.noConfusion
      have fy : ¬ (enL (some y)).f0 = true := Bool.noConfusion
      show _ = some (enL (if ser x = ser y then some x else some (.alt x y)))
      rw [if_neg fx, if_neg fy, show (enL (some x)).f1 = ser x from rfl, show (enL (some y)).f1 = ser y from rfl, rsame_eq _ _ h1, Option.bind_some, Option.bind_some]
      by_cases a : ser x = ser y
      · rw [if_pos (decide_eq_true a), if_pos a]
      · rw [if_neg (by simpa using a), if_neg a, join2 3 (.inr rfl) _ _ (by omega)]; rfl
theorem catL_sz (x y : Option Rx) : sz (catL x y) ≤ sz x + sz y + 1 := by
  cases x with
  | none => cases y <;> simp [catL, sz]
  | some x =>
    cases y with
    | none => cases x <;> simp [catL, sz]
    | some y =>
      rw [catL_def]
      split
      · simp only [sz]; omega
      · split
        · simp only [sz]; omega
        · simp only [sz, ser, List.length_append, List.length_cons, List.length_nil]; omega
theorem altL_sz (x y : Option Rx) : sz (altL x y) ≤ sz x + sz y + 1 := by
  cases x with
  | none => simp only [altL]; omega
  | some x =>
    cases y with
    | none => simp only [altL]; omega
    | some y =>
      simp only [altL]
      split
      · simp only [sz]; omega
      · simp only [sz, ser, List.length_append, List.length_cons, List.length_nil]; omega
theorem dv_sz (b : Nat) : ∀ t, sz (dv b t) ≤ (ser t).length * (ser t).length
  | .non => by simp [dv, sz]
  | .one s => by unfold dv; split <;> simp [sz, ser]
  | .cat x y => by
    have hx := dv_sz b x
    have hy := dv_sz b y
    have px := ser_pos x
    have py := ser_pos y
    have hlen : (ser (.cat x y)).length = (ser x).length + (ser y).length + 1 := by simp only [ser, List.length_append, List.length_cons, List.length_nil]
    have c1 := catL_sz (dv b x) (some y)
    have a1 := altL_sz (catL (dv b x) (some y)) (dv b y)
    have sy : sz (some y) = (ser y).length := rfl
    rw [hlen]
    have e : ((ser x).length + (ser y).length + 1) * ((ser x).length + (ser y).length + 1) = (ser x).length * (ser x).length + (ser y).length * (ser y).length + 2 * ((ser x).length * (ser y).length) + 2 * (ser x).length + 2 * (ser y).length + 1 := by
      simp only [Nat.add_mul, Nat.mul_add]; have := Nat.mul_comm (ser x).length (ser y).length; omega
    rw [e]
    unfold dv
    split <;> omega
  | .alt x y => by
    have hx := dv_sz b x
    have hy := dv_sz b y
    have hlen : (ser (.alt x y)).length = (ser x).length + (ser y).length + 1 := by simp only [ser, List.length_append, List.length_cons, List.length_nil]
    have a1 := altL_sz (dv b x) (dv b y)
    rw [hlen]
    have e : ((ser x).length + (ser y).length + 1) * ((ser x).length + (ser y).length + 1) = (ser x).length * (ser x).length + (ser y).length * (ser y).length + 2 * ((ser x).length * (ser y).length) + 2 * (ser x).length + 2 * (ser y).length + 1 := by
      simp only [Nat.add_mul, Nat.mul_add]; have := Nat.mul_comm (ser x).length (ser y).length; omega
    rw [e]
    unfold dv
    omega
  | .un k x => by
    have hx := dv_sz b x
    have px := ser_pos x
    have hlen : (ser (.un k x)).length = (ser x).length + 1 := by simp [ser]
    have c1 := catL_sz (dv b x) (some (.un 4 x))
    have sy : sz (some (.un 4 x)) = (ser x).length + 1 := by simp [sz, ser]
    rw [hlen]
    have e : ((ser x).length + 1) * ((ser x).length + 1) = (ser x).length * (ser x).length + 2 * (ser x).length + 1 := by
      simp only [Nat.add_mul, Nat.mul_add]; omega
    rw [e]
    unfold dv
    split <;> omega
end Go.Avl.T3
/- Regular expressions as trees: what is left behind a byte. -/
namespace Go.Avl.T3
open Go Go.RowKit Go.Proofs Go.Avl
set_option linter.all false
set_option maxRecDepth 10000
theorem derive_r {b : Nat} (hb : b < 256) : ∀ (j : Nat) (t : Rx), ROK t → (ser t).length ≤ 400 → (ser t).length ≤ j → deriv_derive_r KK j (ser t) (b : Int) = some (enL (dv b t))
  | 0, t, _, _, h => by have := ser_pos t; omega
  | j + 1, t, ht, hz, hj => by
    have hp := ser_pos t
    rw [deriv_derive_r.eq_2, last_ix (by omega), if_pos ⟨by omega, by omega⟩, last_get, parts_eq ht (by omega), Option.bind_some]
    have sq : ∀ x : Rx, (ser x).length ≤ 400 → sz (dv b x) ≤ 160000 := fun x hx => Nat.le_trans (dv_sz b x) (by
      have := Nat.mul_le_mul hx hx; omega)
    cases t with
    | non => rfl
    | one s =>
      have e0 : (S82.mk (kind (.one s)) (setOf (.one s))).f0 = 1 := rfl
      have e1 : (S82.mk (kind (.one s)) (setOf (.one s))).f1 = s := rfl
      rw [e0, e1]
      rw [if_pos rfl, has_eq ht.1 hb, Option.bind_some, dv]
      by_cases a : tb s b = true
      · rw [if_pos a, if_pos a]; rfl
      · rw [if_neg a, if_neg a]; rfl
    | cat x y =>
      have hlen : (ser (.cat x y)).length = (ser x).length + (ser y).length + 1 := by simp only [ser, List.length_append, List.length_cons, List.length_nil]
      have px := ser_pos x
      have py := ser_pos y
      have h1 := derive_r hb j x ht.1 (by omega) (by omega)
      have h2 := derive_r hb j y ht.2 (by omega) (by omega)
      have s1 := sq x (by omega)
      have s2 := sq y (by omega)
      have sy : sz (some y) = (ser y).length := rfl
      have c1 := catL_sz (dv b x) (some y)
      have e0 : (S82.mk (kind (.cat x y)) (setOf (.cat x y))).f0 = 2 := rfl
      have g : ((parts (.cat x y)).length : Int) = 2 := rfl
      have g0 : lget (parts (.cat x y)) (0 : Int) = ser x := rfl
      have g1 : lget (parts (.cat x y)) (1 : Int) = ser y := rfl
      rw [e0, g]
      rw [if_neg (by decide), if_pos rfl, if_pos (by decide), g0, h1, Option.bind_some, if_pos (by decide), g1, show S62.mk false (ser y) = enL (some y) from rfl, cat_eq (by omega), Option.bind_some, if_pos (by decide), empty_eq ht.1 (by omega), Option.bind_some, dv]
      by_cases a : nul x = true
      · rw [if_pos a, if_pos a, if_pos (by decide), h2, Option.bind_some, alt_eq ⟨by omega, by omega⟩]; rfl
      · rw [if_neg a, if_neg a]
    | alt x y =>
      have hlen : (ser (.alt x y)).length = (ser x).length + (ser y).length + 1 := by simp only [ser, List.length_append, List.length_cons, List.length_nil]
      have px := ser_pos x
      have py := ser_pos y
      have h1 := derive_r hb j x ht.1 (by omega) (by omega)
      have h2 := derive_r hb j y ht.2 (by omega) (by omega)
      have s1 := sq x (by omega)
      have s2 := sq y (by omega)
      have e0 : (S82.mk (kind (.alt x y)) (setOf (.alt x y))).f0 = 3 := rfl
      have g : ((parts (.alt x y)).length : Int) = 2 := rfl
      have g0 : lget (parts (.alt x y)) (0 : Int) = ser x := rfl
      have g1 : lget (parts (.alt x y)) (1 : Int) = ser y := rfl
      rw [e0, g]
      rw [if_neg (by decide), if_neg (by decide), if_pos rfl, if_pos (by decide), g0, h1, Option.bind_some, if_pos (by decide), g1, h2, Option.bind_some, alt_eq ⟨by omega, by omega⟩, dv]; rfl
    | un k x =>
      have hk : k = 4 ∨ k = 5 ∨ k = 6 := by have := ht.1; have := ht.2.1; omega
      have hlen : (ser (.un k x)).length = (ser x).length + 1 := by simp [ser]
      have px := ser_pos x
      have h1 := derive_r hb j x ht.2.2 (by omega) (by omega)
      have s1 := sq x (by omega)
      have sy : sz (some (.un 4 x)) = (ser x).length + 1 := by simp [sz, ser]
      have e0 : (S82.mk (kind (.un k x)) (setOf (.un k x))).f0 = k := rfl
      have g : ((parts (.un k x)).length : Int) = 1 := rfl
      have g0 : lget (parts (.un k x)) (0 : Int) = ser x := rfl
      rw [e0, g]
      rw [if_neg (by omega), if_neg (by omega), if_neg (by omega), dv]
      by_cases k6 : k = 6
      · rw [if_pos k6, if_pos k6, if_pos (by decide), g0, h1]; rfl
      · rw [if_neg k6, if_neg k6]
        unfold deriv_derive_c1
        have gg : 0 ≤ (0 : Int) ∧ (0 : Int) < ((parts (.un k x)).length : Int) := by rw [g]; decide
        have fin : (if 0 ≤ (0 : Int) ∧ (0 : Int) < ((parts (.un k x)).length : Int) then (deriv_derive_r KK j (lget (parts (.un k x)) (0 : Int)) (b : Int)).bind fun t35 => if 0 ≤ (0 : Int) ∧ (0 : Int) < ((parts (.un k x)).length : Int) then (rex_Join KK (4 : Int) [(lget (parts (.un k x)) (0 : Int))]).bind fun t38 => (deriv_cat KK t35 (S62.mk false t38)).bind fun t39 => some t39 else none else none) = some (enL (catL (dv b x) (some (.un 4 x)))) := by
          rw [if_pos gg, g0, h1, Option.bind_some, if_pos gg, join1 4 (.inl rfl) _ (by omega), Option.bind_some, show S62.mk false (ser x ++ [S82.mk 4 VZ]) = enL (some (.un 4 x)) from rfl, cat_eq (by omega)]; rfl
        by_cases k4 : k = 4
        · rw [if_pos k4, if_pos (decide_eq_true k4)]; exact fin
        · rw [if_neg k4, if_pos (decide_eq_true (by omega))]; exact fin
theorem derive_eq {b : Nat} (hb : b < 256) {t : Rx} (ht : ROK t) (hz : (ser t).length ≤ 400) : deriv_derive KK (ser t) (b : Int) = some (enL (dv b t)) := derive_r hb KK t ht hz (by show _ ≤ 200000; omega)
theorem catL_none (x y : Option Rx) : catL x y = none ↔ x = none ∨ y = none := by
  cases x with
  | none => cases y <;> simp [catL]
  | some x =>
    cases y with
    | none => cases x <;> simp [catL]
    | some y =>
      rw [catL_def]
      split
      · simp
      · split <;> simp
theorem altL_none (x y : Option Rx) : altL x y = none ↔ x = none ∧ y = none := by
  cases x with
  | none => simp [altL]
  | some x =>
    cases y with
    | none => simp [altL]
    | some y => simp only [altL]; split <;> simp
theorem dv_none (b : Nat) : ∀ t, dv b t = none ↔ fbit t b = false
  | .non => by simp [dv, fbit]
  | .one s => by unfold dv; cases h : tb s b <;> simp [fbit, h]
  | .cat x y => by
    have hx := dv_none b x
    have hy := dv_none b y
    unfold dv fbit
    cases nul x with
    | true => rw [if_pos rfl, altL_none, catL_none, hx, hy]; simp
    | false => rw [if_neg (by decide), catL_none, hx]; simp
  | .alt x y => by
    unfold dv fbit
    rw [altL_none, dv_none b x, dv_none b y]; simp
  | .un k x => by
    unfold dv fbit
    split
    · exact dv_none b x
    · rw [catL_none, dv_none b x]; simp
end Go.Avl.T3
/- Regular expressions as trees: first bytes. -/
namespace Go.Avl.T3
open Go Go.RowKit Go.Proofs Go.Avl
set_option linter.all false
set_option maxRecDepth 10000

/-! First bytes. -/
def FB (t : Rx) (c : Vector Int 4) : Prop := U c ∧ ∀ x, x < 256 → tb c x = fbit t x
theorem FB.uniq {t : Rx} {c c' : Vector Int 4} (h : FB t c) (h' : FB t c') : c = c' := ext_tb h.1 h'.1 fun b hb => by rw [h.2 b hb, h'.2 b hb]
theorem VZ_U : U VZ := U_zero
theorem VZ_tb (b : Nat) (hb : b < 256) : tb VZ b = false := tb_zero b hb
theorem first_scan (p0 : List S82) (hz : p0.length ≤ 1000000) : ∀ (t : Rx), ROK t → ∀ (pre post : List S82), p0 = pre ++ ser t ++ post → ∃ c, FB t c ∧ ∀ (st : List S102) (f : Nat), st.length + (ser t).length ≤ 2000000 →
    deriv_First_l4 KK p0 (f + (ser t).length) st (pre.length : Int) = deriv_First_l4 KK p0 f (st ++ [S102.mk c (nul t)]) ((pre.length + (ser t).length : Nat) : Int) := by
  have two : ∀ (pre : List S82) (p : S82) (post : List S82) (c1 c2 : Vector Int 4) (n1 n2 : Bool), p0 = pre ++ p :: post → U c1 → U c2 → (p.f0 = 2 ∨ p.f0 = 3) →
      ∃ c, U c ∧ (∀ x, x < 256 → tb c x = (tb c1 x || ((if p.f0 = 2 then n1 else true) && tb c2 x))) ∧ ∀ (f : Nat) (st : List S102), st.length ≤ 2000000 → deriv_First_l4 KK p0 (f + 1) (st ++ [S102.mk c1 n1, S102.mk c2 n2]) (pre.length : Int) = deriv_First_l4 KK p0 f (st ++ [S102.mk c (if p.f0 = 2 then n1 && n2 else n1 || n2)]) ((pre.length + 1 : Nat) : Int) := by
    intro pre p post c1 c2 n1 n2 e u1 u2 hk
    have hl : pre.length < p0.length := by rw [e]; simp
    have hg : lget p0 (pre.length : Int) = p := by rw [e]; exact pget_at pre p post
    obtain ⟨c, d1, d2, d3⟩ := or_eq u1 u2
    have main : ∀ (cc : Vector Int 4), (p.f0 = 3 → cc = c) → (p.f0 = 2 → cc = if n1 = true then c else c1) → ∀ (f : Nat) (st : List S102), st.length ≤ 2000000 → deriv_First_l4 KK p0 (f + 1) (st ++ [S102.mk c1 n1, S102.mk c2 n2]) (pre.length : Int) = deriv_First_l4 KK p0 f (st ++ [S102.mk cc (if p.f0 = 2 then n1 && n2 else n1 || n2)]) ((pre.length + 1 : Nat) : Int) := by
      intro cc hc3 hc2 f st hs
      have i2 : w64 (((st ++ [S102.mk c1 n1, S102.mk c2 n2]).length : Int) - 2) = (st.length : Int) := by rw [w6 (by simp only [List.length_append, List.length_cons, List.length_nil]; omega) (by simp only [List.length_append, List.length_cons, List.length_nil]; omega)]; simp only [List.length_append, List.length_cons, List.length_nil]; omega
      have i1 : w64 (((st ++ [S102.mk c1 n1, S102.mk c2 n2]).length : Int) - 1) = (st.length : Int) + 1 := by rw [w6 (by simp only [List.length_append, List.length_cons, List.length_nil]; omega) (by simp only [List.length_append, List.length_cons, List.length_nil]; omega)]; simp only [List.length_append, List.length_cons, List.length_nil]; omega
      have g2 : lget (st ++ [S102.mk c1 n1, S102.mk c2 n2]) (st.length : Int) = S102.mk c1 n1 := bget st _ _
      have g1 : lget (st ++ [S102.mk c1 n1, S102.mk c2 n2]) ((st.length : Int) + 1) = S102.mk c2 n2 := bget1 st _ _
      have tk2 : (st ++ [S102.mk c1 n1, S102.mk c2 n2]).take (st.length : Int).toNat = st := by rw [Int.toNat_natCast]; exact btake st _
      have b0 : 0 ≤ (st.length : Int) ∧ (st.length : Int) ≤ ((st ++ [S102.mk c1 n1, S102.mk c2 n2]).length : Int) := ⟨by omega, by simp; omega⟩
      have b1 : 0 ≤ (st.length : Int) ∧ (st.length : Int) < ((st ++ [S102.mk c1 n1, S102.mk c2 n2]).length : Int) := ⟨by omega, by simp; omega⟩
      have b2 : 0 ≤ (st.length : Int) + 1 ∧ (st.length : Int) + 1 < ((st ++ [S102.mk c1 n1, S102.mk c2 n2]).length : Int) := ⟨by omega, by simp only [List.length_append, List.length_cons, List.length_nil]; omega⟩
      have hlen : ∀ z : S102, (st ++ ([z] : List S102)).length * 40 ≤ 140737488355328 := fun z => by simp; omega
      rw [deriv_First_l4.eq_2, if_pos (by omega), if_pos ⟨by omega, by omega⟩, hg]
      unfold deriv_First_c2 deriv_First_c1
      rw [i1, i2, g1, g2, tk2, w6 (x := (pre.length : Int) + 1) (by omega) (by omega)]
      simp only []
      rcases hk with hk | hk
      · have er : (if p.f0 = 2 then n1 && n2 else n1 || n2) = (n1 && n2) := if_pos hk
        rw [er, if_neg (by omega), if_neg (by omega), if_pos hk, if_pos b1, if_pos b2, d1, Option.bind_some, if_pos b0, hc2 hk]
        cases n1 with
        | true =>
          rw [if_pos rfl, if_pos rfl, if_pos (hlen _)]; rfl
        | false => rw [if_neg (by decide), if_pos b0, if_neg (by decide), if_pos (hlen _)]; rfl
      · have er : (if p.f0 = 2 then n1 && n2 else n1 || n2) = (n1 || n2) := if_neg (by omega)
        rw [er, if_neg (by omega), if_neg (by omega), if_neg (by omega), if_pos hk, if_pos b0, if_pos b1, if_pos b2, d1, Option.bind_some, if_pos b1, hc3 hk]
        cases n1 with
        | true => rw [if_pos rfl, if_pos (hlen _)]; rfl
        | false => rw [if_neg (by decide), if_pos b2, if_pos (hlen _)]; rfl
    rcases hk with hk | hk
    · by_cases hn : n1 = true
      · exact ⟨c, d2, fun x hx => by rw [d3 x hx, if_pos hk, hn]; simp, main c (fun k => by omega) (fun _ => by rw [if_pos hn])⟩
      · exact ⟨c1, u1, fun x hx => by rw [if_pos hk, Bool.eq_false_iff.2 hn]; simp, main c1 (fun k => by omega) (fun _ => by rw [if_neg hn])⟩
    · exact ⟨c, d2, fun x hx => by rw [d3 x hx, if_neg (by omega)]; simp, main c (fun _ => rfl) (fun k => by omega)⟩
  have top : ∀ (pre : List S82) (p : S82) (post : List S82) (f : Nat) (st : List S102) (c : Vector Int 4) (n : Bool), p0 = pre ++ p :: post → st.length ≤ 2000000 → (p.f0 = 4 ∨ p.f0 = 5 ∨ p.f0 = 6) →
      deriv_First_l4 KK p0 (f + 1) (st ++ [S102.mk c n]) (pre.length : Int) = deriv_First_l4 KK p0 f (st ++ [S102.mk c (if p.f0 = 5 then n else true)]) ((pre.length + 1 : Nat) : Int) := by
    intro pre p post f st c n e hs hk
    have hl : pre.length < p0.length := by rw [e]; simp
    have hg : lget p0 (pre.length : Int) = p := by rw [e]; exact pget_at pre p post
    have i1 : w64 (((st ++ [S102.mk c n]).length : Int) - 1) = (st.length : Int) := by rw [w6 (by simp only [List.length_append, List.length_cons, List.length_nil]; omega) (by simp only [List.length_append, List.length_cons, List.length_nil]; omega)]; simp only [List.length_append, List.length_cons, List.length_nil]; omega
    have b1 : 0 ≤ (st.length : Int) ∧ (st.length : Int) < ((st ++ [S102.mk c n]).length : Int) := ⟨by omega, by simp only [List.length_append, List.length_cons, List.length_nil]; omega⟩
    have g1 : lget (st ++ [S102.mk c n]) (st.length : Int) = S102.mk c n := bget st _ _
    rw [deriv_First_l4.eq_2, if_pos (by omega), if_pos ⟨by omega, by omega⟩, hg, if_neg (by omega), if_neg (by omega), if_neg (by omega), if_neg (by omega)]
    unfold deriv_First_c3 deriv_First_c1
    rw [i1, bset, g1, w6 (x := (pre.length : Int) + 1) (by omega) (by omega)]
    rcases hk with hk | hk | hk
    · have er : (if p.f0 = 5 then n else true) = true := if_neg (by omega)
      rw [er, if_pos hk, if_pos (decide_eq_true hk), if_pos b1]; rfl
    · have er : (if p.f0 = 5 then n else true) = n := if_pos hk
      rw [er, if_neg (by omega), if_neg (by simp; omega)]; rfl
    · have er : (if p.f0 = 5 then n else true) = true := if_neg (by omega)
      rw [er, if_neg (by omega), if_pos (decide_eq_true hk), if_pos b1]; rfl
  intro t
  induction t with
  | non =>
    intro _ pre post e
    refine ⟨VZ, ⟨VZ_U, VZ_tb⟩, fun st f hs => ?_⟩
    have hl : pre.length < p0.length := by rw [e]; simp [ser]
    have hg : lget p0 (pre.length : Int) = S82.mk 0 VZ := by rw [e]; simp only [ser, List.append_assoc, List.singleton_append]; exact pget_at pre _ post
    show deriv_First_l4 KK p0 (f + 1) st _ = _
    rw [deriv_First_l4.eq_2, if_pos (by omega), if_pos ⟨by omega, by omega⟩, hg, if_pos rfl, if_pos (by simp [ser] at hs ⊢; omega), deriv_First_c1, w6 (by omega) (by omega)]; rfl
  | one s =>
    intro hok pre post e
    refine ⟨s, ⟨hok.1, fun x hx => rfl⟩, fun st f hs => ?_⟩
    have hl : pre.length < p0.length := by rw [e]; simp [ser]
    have hg : lget p0 (pre.length : Int) = S82.mk 1 s := by rw [e]; simp only [ser, List.append_assoc, List.singleton_append]; exact pget_at pre _ post
    show deriv_First_l4 KK p0 (f + 1) st _ = _
    rw [deriv_First_l4.eq_2, if_pos (by omega), if_pos ⟨by omega, by omega⟩, hg, if_neg (by show ¬ ((1 : Int) = 0); decide), if_pos rfl, if_pos (by simp [ser] at hs ⊢; omega), deriv_First_c1, w6 (by omega) (by omega)]; rfl
  | cat a b iha ihb =>
    intro hok pre post e
    have hlen : (ser (.cat a b)).length = (ser a).length + (ser b).length + 1 := by simp only [ser, List.length_append, List.length_cons, List.length_nil]
    obtain ⟨c1, f1, h1⟩ := iha hok.1 pre (ser b ++ S82.mk 2 VZ :: post) (by rw [e]; simp [ser])
    obtain ⟨c2, f2, h2⟩ := ihb hok.2 (pre ++ ser a) (S82.mk 2 VZ :: post) (by rw [e]; simp [ser])
    obtain ⟨c, k1, k2, k3⟩ := two (pre ++ ser a ++ ser b) (S82.mk 2 VZ) post c1 c2 (nul a) (nul b) (by rw [e]; simp [ser]) f1.1 f2.1 (.inl rfl)
    refine ⟨c, ⟨k1, fun x hx => by rw [k2 x hx, f1.2 x hx, f2.2 x hx]; rfl⟩, fun st f hs => ?_⟩
    have h1 := h1 st (f + 1 + (ser b).length) (by omega)
    have h2 := h2 (st ++ [S102.mk c1 (nul a)]) (f + 1) (by simp; omega)
    have h3 := k3 f st (by omega)
    rw [hlen, show f + ((ser a).length + (ser b).length + 1) = f + 1 + (ser b).length + (ser a).length by omega]
    rw [List.length_append] at h2
    rw [List.append_assoc st] at h2
    rw [show (pre ++ ser a ++ ser b).length = pre.length + (ser a).length + (ser b).length by simp; omega] at h3
    rw [show pre.length + ((ser a).length + (ser b).length + 1) = pre.length + (ser a).length + (ser b).length + 1 by omega, h1, h2]
    exact h3
  | alt a b iha ihb =>
    intro hok pre post e
    have hlen : (ser (.alt a b)).length = (ser a).length + (ser b).length + 1 := by simp only [ser, List.length_append, List.length_cons, List.length_nil]
    obtain ⟨c1, f1, h1⟩ := iha hok.1 pre (ser b ++ S82.mk 3 VZ :: post) (by rw [e]; simp [ser])
    obtain ⟨c2, f2, h2⟩ := ihb hok.2 (pre ++ ser a) (S82.mk 3 VZ :: post) (by rw [e]; simp [ser])
    obtain ⟨c, k1, k2, k3⟩ := two (pre ++ ser a ++ ser b) (S82.mk 3 VZ) post c1 c2 (nul a) (nul b) (by rw [e]; simp [ser]) f1.1 f2.1 (.inr rfl)
    refine ⟨c, ⟨k1, fun x hx => by rw [k2 x hx, f1.2 x hx, f2.2 x hx]; simp [fbit]⟩, fun st f hs => ?_⟩
    have h1 := h1 st (f + 1 + (ser b).length) (by omega)
    have h2 := h2 (st ++ [S102.mk c1 (nul a)]) (f + 1) (by simp; omega)
    have h3 := k3 f st (by omega)
    rw [hlen, show f + ((ser a).length + (ser b).length + 1) = f + 1 + (ser b).length + (ser a).length by omega]
    rw [List.length_append] at h2
    rw [List.append_assoc st] at h2
    rw [show (pre ++ ser a ++ ser b).length = pre.length + (ser a).length + (ser b).length by simp; omega] at h3
    rw [show pre.length + ((ser a).length + (ser b).length + 1) = pre.length + (ser a).length + (ser b).length + 1 by omega, h1, h2]
    exact h3
  | un k a iha =>
    intro hok pre post e
    have hk : k = 4 ∨ k = 5 ∨ k = 6 := by have := hok.1; have := hok.2.1; omega
    have hlen : (ser (.un k a)).length = (ser a).length + 1 := by simp [ser]
    obtain ⟨c, f1, h1⟩ := iha hok.2.2 pre (S82.mk k VZ :: post) (by rw [e]; simp [ser])
    refine ⟨c, f1, fun st f hs => ?_⟩
    have h1 := h1 st (f + 1) (by omega)
    have h3 := top (pre ++ ser a) (S82.mk k VZ) post f st c (nul a) (by rw [e]; simp [ser]) (by omega) hk
    rw [hlen, show f + ((ser a).length + 1) = f + 1 + (ser a).length by omega]
    rw [show (pre ++ ser a).length = pre.length + (ser a).length by simp] at h3
    rw [show pre.length + ((ser a).length + 1) = pre.length + (ser a).length + 1 by omega, h1]
    exact h3
theorem first_eq {t : Rx} (ht : ROK t) (hz : (ser t).length ≤ 100000) : ∃ c, FB t c ∧ deriv_First KK (ser t) = some c := by
  obtain ⟨c, h1, h2⟩ := first_scan (ser t) (by omega) t ht [] [] (by simp)
  refine ⟨c, h1, ?_⟩
  have := h2 [] (KK - (ser t).length) (by simp; omega)
  rw [show KK - (ser t).length + (ser t).length = KK by show 200000 - _ + _ = 200000; omega] at this
  unfold deriv_First
  refine this.trans ?_
  obtain ⟨f, hf⟩ : ∃ f, KK - (ser t).length = f + 1 := ⟨KK - (ser t).length - 1, by show 200000 - _ = 200000 - _ - 1 + 1; omega⟩
  rw [hf, deriv_First_l4.eq_2, if_neg (by simp)]
  unfold deriv_First_c0
  rw [List.nil_append, if_neg (by simp), if_pos ⟨by omega, by simp⟩]; rfl
theorem rput0 {a b : Vector Int 4} (ha : U a) (hb : U b) : ∃ c, bosketref02_Put KK 0 a b = some c ∧ U c ∧ ∀ x, x < 256 → tb c x = (tb a x || tb b x) := by
  obtain ⟨c, c1, c2, c3⟩ := rput_eq 0 ha hb
  exact ⟨c, c1, c2, fun x hx => by rw [c3 x hx]; unfold opb; rw [if_pos rfl]⟩
theorem rfirst_r : ∀ (j : Nat) (t : Rx), ROK t → (ser t).length ≤ 100000 → (ser t).length ≤ j → ∃ c, FB t c ∧ bosketref05_First_r KK j (ser t) = some (c, nul t)
  | 0, t, _, _, h => by have := ser_pos t; omega
  | j + 1, t, ht, hz, hj => by
    have hp := ser_pos t
    rw [bosketref05_First_r.eq_2, last_ix hz, if_pos ⟨by omega, by omega⟩, last_get, rparts_eq ht hz, Option.bind_some]
    cases t with
    | non => exact ⟨VZ, ⟨VZ_U, VZ_tb⟩, rfl⟩
    | one s => exact ⟨s, ⟨ht.1, fun x _ => rfl⟩, rfl⟩
    | cat a b =>
      have hlen : (ser (.cat a b)).length = (ser a).length + (ser b).length + 1 := by simp only [ser, List.length_append, List.length_cons, List.length_nil]
      have pa := ser_pos a
      have pb := ser_pos b
      obtain ⟨c1, f1, h1⟩ := rfirst_r j a ht.1 (by omega) (by omega)
      obtain ⟨c2, f2, h2⟩ := rfirst_r j b ht.2 (by omega) (by omega)
      obtain ⟨c, d1, d2, d3⟩ := rput0 f1.1 f2.1
      have e0 : (S82.mk (kind (.cat a b)) (setOf (.cat a b))).f0 = 2 := rfl
      have g : ((parts (.cat a b)).length : Int) = 2 := rfl
      have g0 : lget (parts (.cat a b)) (0 : Int) = ser a := rfl
      have g1 : lget (parts (.cat a b)) (1 : Int) = ser b := rfl
      rw [e0, g]
      rw [if_neg (by decide), if_neg (by decide), if_pos rfl, if_pos (by decide), g0, h1, Option.bind_some, if_pos (by decide), g1, h2, Option.bind_some]
      unfold bosketref05_First_c0
      simp only []
      cases e : nul a with
      | true =>
        refine ⟨c, ⟨d2, fun x hx => by rw [d3 x hx, f1.2 x hx, f2.2 x hx, fbit, e]; simp⟩, ?_⟩
        rw [if_pos rfl, d1, Option.bind_some, if_pos rfl, Option.bind_some, nul, e]; simp
      | false =>
        refine ⟨c1, ⟨f1.1, fun x hx => by rw [f1.2 x hx, fbit, e]; simp⟩, ?_⟩
        rw [if_neg (by decide), if_neg (by decide), Option.bind_some, nul, e]; simp
    | alt a b =>
      have hlen : (ser (.alt a b)).length = (ser a).length + (ser b).length + 1 := by simp only [ser, List.length_append, List.length_cons, List.length_nil]
      have pa := ser_pos a
      have pb := ser_pos b
      obtain ⟨c1, f1, h1⟩ := rfirst_r j a ht.1 (by omega) (by omega)
      obtain ⟨c2, f2, h2⟩ := rfirst_r j b ht.2 (by omega) (by omega)
      obtain ⟨c, d1, d2, d3⟩ := rput0 f1.1 f2.1
      have e0 : (S82.mk (kind (.alt a b)) (setOf (.alt a b))).f0 = 3 := rfl
      have g : ((parts (.alt a b)).length : Int) = 2 := rfl
      have g0 : lget (parts (.alt a b)) (0 : Int) = ser a := rfl
      have g1 : lget (parts (.alt a b)) (1 : Int) = ser b := rfl
      rw [e0, g]
      rw [if_neg (by decide), if_neg (by decide), if_neg (by decide), if_pos rfl, if_pos (by decide), g0, h1, Option.bind_some, if_pos (by decide), g1, h2, Option.bind_some]
      simp only []
      rw [d1, Option.bind_some]
      refine ⟨c, ⟨d2, fun x hx => by rw [d3 x hx, f1.2 x hx, f2.2 x hx, fbit]⟩, ?_⟩
      cases e : nul a with
      | true => rw [if_pos rfl, nul, e]; simp
      | false => rw [if_neg (by decide), nul, e]; simp
    | un k a =>
      have hk : k = 4 ∨ k = 5 ∨ k = 6 := by have := ht.1; have := ht.2.1; omega
      have hlen : (ser (.un k a)).length = (ser a).length + 1 := by simp [ser]
      have pa := ser_pos a
      obtain ⟨c1, f1, h1⟩ := rfirst_r j a ht.2.2 (by omega) (by omega)
      have e0 : (S82.mk (kind (.un k a)) (setOf (.un k a))).f0 = k := rfl
      have g : ((parts (.un k a)).length : Int) = 1 := rfl
      have g0 : lget (parts (.un k a)) (0 : Int) = ser a := rfl
      rw [e0, g]
      rw [if_neg (by omega), if_neg (by omega), if_neg (by omega), if_neg (by omega), if_pos (by decide), g0, h1, Option.bind_some]
      refine ⟨c1, f1, ?_⟩
      simp only []
      rw [nul]
      cases e : nul a with
      | true => rw [if_pos rfl]; simp
      | false =>
        rw [if_neg (by decide)]
        by_cases k5 : k = 5
        · rw [if_pos k5, decide_eq_false (by omega)]
        · rw [if_neg k5, decide_eq_true k5]
theorem rfirst_eq {t : Rx} (ht : ROK t) (hz : (ser t).length ≤ 100000) : ∃ c, FB t c ∧ bosketref05_First KK (ser t) = some (c, nul t) := rfirst_r KK t ht hz (by show _ ≤ 200000; omega)
end Go.Avl.T3
/- DerivFirst: the plain law. -/
namespace Go.Avl.T3
open Go Go.RowKit Go.Proofs Go.Avl
set_option linter.all false
set_option maxRecDepth 10000

theorem awake05 : bosketlaw05_awake KK = some true := by decide +kernel
theorem u8_of {n : Int} (h : (Lit.int .u8 n).wf = true) : 0 ≤ n ∧ n ≤ 255 := by
  simpa [Lit.wf, show IntKind.u8.min = 0 from rfl, show IntKind.u8.max = 255 from rfl] using h
theorem bosketlaw05_DerivFirst_true (a0 : (List S82)) (a1 : Int) (h0 : wf58 a0) (h1 : wf5 a1) : ∃ k, bosketlaw05_DerivFirst k a0 a1 = some true := by
  refine ⟨KK, ?_⟩
  unfold bosketlaw05_DerivFirst
  rw [awake05, Option.bind_some, if_neg (by decide)]
  by_cases a : (60 : Int) < (a0.length : Int)
  · rw [if_pos a, Option.bind_some, if_pos rfl]
  obtain ⟨c, -, c2, c3⟩ := check_eq a0 (by omega) (fun x hx => U_of (h0.2 x hx).2)
  obtain ⟨c', c1', c2', -⟩ := check_eq a0 (by omega) (fun x hx => U_of (h0.2 x hx).2)
  rw [if_neg a, c2, Option.bind_some, Option.bind_some]
  by_cases hc : c = 0
  · obtain ⟨t, ht, rfl⟩ := c3 hc
    obtain rfl : c = c' := by rw [c2] at c2'; exact Option.some.inj c2'
    obtain ⟨s, s1, s2⟩ := rfirst_eq ht (by omega)
    obtain ⟨s', s3, s4⟩ := first_eq ht (by omega)
    obtain rfl := s1.uniq s3
    obtain ⟨b1, b2⟩ := u8_of h1
    obtain ⟨b, rfl⟩ : ∃ b : Nat, a1 = (b : Int) := ⟨a1.toNat, by omega⟩
    have hb : b < 256 := by omega
    have hby : deriv_By KK (ser t) (b : Int) = some (enL (dv b t)) := by
      unfold deriv_By
      rw [c1', Option.bind_some, if_neg (by simpa using hc), derive_eq hb ht (by omega), Option.bind_some]
    rw [if_neg (by simpa using hc), s2, Option.bind_some, empty_eq ht (by omega), Option.bind_some, if_pos (by simp), s4, Option.bind_some, if_pos rfl, hby, Option.bind_some,
      w6 (by omega) (by omega), rhas_eq s1.1 hb, Option.bind_some, Option.bind_some, s1.2 b hb]
    have := dv_none b t
    cases hd : dv b t with
    | none => rw [this.1 hd]; rfl
    | some u =>
      have : fbit t b = true := by
        rw [hd] at this
        cases hf : fbit t b with
        | true => rfl
        | false => exact absurd (this.2 hf) (by simp)
      rw [this]; rfl
  · rw [if_pos (decide_eq_true hc)]
end Go.Avl.T3
