/- Parts: T3W, T3S1, T3N1, T3PureNfaSteps. -/
import Derived.Test.YtcdennkoccjacaaAF1
import Derived.Test.YtcdennkoccjacaaAv4
import Derived.Laws.Bits64b
import Derived.Test.YtcdennkoccjacaaAF2
import Derived.Test.YtcdennkoccjacaaAF3
import Derived.Test.YtcdennkoccjacaaAF5
import Derived.Test.YtcdennkoccjacaaAF6
/- Opening of the arguments; printed by avlaw.py. -/
namespace Go.Avl.T3
open Go Go.RowKit Go.Proofs Go.Avl
set_option linter.unusedVariables false
set_option maxRecDepth 100000
abbrev e22 (l : List S35) : AV := .fz 7 (l.map e35)
abbrev e42 (l : List S24) : AV := .fz 4 (l.map e24)
abbrev e47 (v : Vector Int 256) : AV := .ar 1 (v.toList.map eU8)
abbrev e48 (l : List (List Int)) : AV := .fz 1 (l.map e43)
abbrev e51 (v : Vector Int 2) : AV := .ar 1 (v.toList.map eU8)
abbrev e59 (v : Vector ByteArray 2) : AV := .ar 1 (v.toList.map eStr)
theorem ag25 : tyAgg Try.prog 25 = some false := by rfl
theorem ag42 : tyAgg Try.prog 42 = some false := by rfl
theorem sz51 : tySize Try.prog 51 = some 2 := by rfl
theorem ag51 : tyAgg Try.prog 51 = some true := by rfl
theorem sz59 : tySize Try.prog 59 = some 2 := by rfl
theorem ag59 : tyAgg Try.prog 59 = some true := by rfl
theorem ag60 : tyAgg Try.prog 60 = some false := by rfl
abbrev wf3 : Int → Prop := (fun n : Int => (Lit.int .i64 n).wf = true)
theorem op3 : Opens Try.prog 3 eI64 wf3 := opens_int Try.underlying3
abbrev wf31 : Int → Prop := (fun n : Int => (Lit.int .u64 n).wf = true)
theorem op31 : Opens Try.prog 31 eU64 wf31 := opens_int Try.underlying31
abbrev wf33 : (Vector Int 4) → Prop := (fun l : Vector Int 4 => ∀ a ∈ l.toList, wf31 a)
theorem op33 : Opens Try.prog 33 e33 wf33 := opens_array Try.underlying33 sz31 sz33 op31
abbrev wf4 : Bool → Prop := (fun _ : Bool => True)
theorem op4 : Opens Try.prog 4 eBool wf4 := opens_bool Try.underlying4
abbrev wf35 : S35 → Prop := (fun x : S35 => wf3 x.f0 ∧ wf3 x.f1 ∧ wf33 x.f2 ∧ wf4 x.f3)
theorem op35 : Opens Try.prog 35 e35 wf35 := (opens_struct Try.underlying35 sz35 (opensF_cons rfl sz3 (by decide) op3 (opensF_cons rfl sz3 (by decide) op3 (opensF_cons rfl sz33 (by decide) op33 (opensF_cons rfl sz4 (by decide) op4 (opensF_nil _)))))).map (fun p => S35.mk p.1 p.2.1 p.2.2.1 p.2.2.2.1) (fun _ => rfl) (fun _ h => ⟨h.1, h.2.1, h.2.2.1, h.2.2.2.1⟩)
abbrev wf22 : (List S35) → Prop := (fun l : List S35 => l.length ≤ 9223372036854775807 ∧ ∀ a ∈ l, wf35 a)
theorem op22 : Opens Try.prog 22 e22 wf22 := opens_slice Try.underlying22 sz35 op35
abbrev wf24 : S24 → Prop := (fun x : S24 => wf3 x.f0 ∧ wf22 x.f1 ∧ wf3 x.f2 ∧ wf3 x.f3)
theorem op24 : Opens Try.prog 24 e24 wf24 := (opens_struct Try.underlying24 sz24 (opensF_cons rfl sz3 (by decide) op3 (opensF_cons rfl sz22 (by decide) op22 (opensF_cons rfl sz3 (by decide) op3 (opensF_cons rfl sz3 (by decide) op3 (opensF_nil _)))))).map (fun p => S24.mk p.1 p.2.1 p.2.2.1 p.2.2.2.1) (fun _ => rfl) (fun _ h => ⟨h.1, h.2.1, h.2.2.1, h.2.2.2.1⟩)
abbrev wf25 : (List Bool) → Prop := (fun l : List Bool => l.length ≤ 9223372036854775807 ∧ ∀ a ∈ l, wf4 a)
theorem op25 : Opens Try.prog 25 e25 wf25 := opens_slice Try.underlying25 sz4 op4
abbrev wf9 : ByteArray → Prop := (fun s : ByteArray => s.size ≤ 9223372036854775807)
theorem op9 : Opens Try.prog 9 eStr wf9 := opens_string Try.underlying9
abbrev wf42 : (List S24) → Prop := (fun l : List S24 => l.length ≤ 9223372036854775807 ∧ ∀ a ∈ l, wf24 a)
theorem op42 : Opens Try.prog 42 e42 wf42 := opens_slice Try.underlying42 sz24 op24
abbrev wf5 : Int → Prop := (fun n : Int => (Lit.int .u8 n).wf = true)
theorem op5 : Opens Try.prog 5 eU8 wf5 := opens_int Try.underlying5
abbrev wf47 : (Vector Int 256) → Prop := (fun l : Vector Int 256 => ∀ a ∈ l.toList, wf5 a)
theorem op47 : Opens Try.prog 47 e47 wf47 := opens_array Try.underlying47 sz5 sz47 op5
abbrev wf43 : (List Int) → Prop := (fun l : List Int => l.length ≤ 9223372036854775807 ∧ ∀ a ∈ l, wf3 a)
theorem op43 : Opens Try.prog 43 e43 wf43 := opens_slice Try.underlying43 sz3 op3
abbrev wf48 : (List (List Int)) → Prop := (fun l : List (List Int) => l.length ≤ 9223372036854775807 ∧ ∀ a ∈ l, wf43 a)
theorem op48 : Opens Try.prog 48 e48 wf48 := opens_slice Try.underlying48 sz43 op43
abbrev wf50 : S50 → Prop := (fun x : S50 => wf47 x.f0 ∧ wf48 x.f1 ∧ wf43 x.f2)
theorem op50 : Opens Try.prog 50 e50 wf50 := (opens_struct Try.underlying50 sz50 (opensF_cons rfl sz47 (by decide) op47 (opensF_cons rfl sz48 (by decide) op48 (opensF_cons rfl sz43 (by decide) op43 (opensF_nil _))))).map (fun p => S50.mk p.1 p.2.1 p.2.2.1) (fun _ => rfl) (fun _ h => ⟨h.1, h.2.1, h.2.2.1⟩)
abbrev wf51 : (Vector Int 2) → Prop := (fun l : Vector Int 2 => ∀ a ∈ l.toList, wf5 a)
theorem op51 : Opens Try.prog 51 e51 wf51 := opens_array Try.underlying51 sz5 sz51 op5
abbrev wf82 : S82 → Prop := (fun x : S82 => wf3 x.f0 ∧ wf33 x.f1)
theorem op82 : Opens Try.prog 82 e82 wf82 := (opens_struct Try.underlying82 sz82 (opensF_cons rfl sz3 (by decide) op3 (opensF_cons rfl sz33 (by decide) op33 (opensF_nil _)))).map (fun p => S82.mk p.1 p.2.1) (fun _ => rfl) (fun _ h => ⟨h.1, h.2.1⟩)
abbrev wf58 : (List S82) → Prop := (fun l : List S82 => l.length ≤ 9223372036854775807 ∧ ∀ a ∈ l, wf82 a)
theorem op58 : Opens Try.prog 58 e58 wf58 := opens_slice Try.underlying58 sz82 op82
abbrev wf59 : (Vector ByteArray 2) → Prop := (fun l : Vector ByteArray 2 => ∀ a ∈ l.toList, wf9 a)
theorem op59 : Opens Try.prog 59 e59 wf59 := opens_array Try.underlying59 sz9 sz59 op9
abbrev wf60 : Int → Prop := (fun n : Int => (Lit.int .u16 n).wf = true)
theorem op60 : Opens Try.prog 60 eU16 wf60 := opens_int Try.underlying60
end Go.Avl.T3
/- Ported: texts between quotes. -/
namespace Go.Avl.T3
open Go Go.RowKit Go.Proofs Go.Avl
set_option linter.all false
set_option maxRecDepth 10000

def U (a : Vector Int 4) : Prop := ∀ j : Nat, j < 4 → 0 ≤ vget a (j : Int) ∧ vget a (j : Int) < 18446744073709551616
def wd (a : Vector Int 4) (j : Nat) : Nat := (vget a (j : Int)).toNat
/-- Is a byte in a set? -/
def tb (a : Vector Int 4) (b : Nat) : Bool := (wd a (b / 64)).testBit (b % 64)
theorem wd_eq {a : Vector Int 4} (h : U a) (j : Nat) (hj : j < 4) : vget a (j : Int) = (wd a j : Int) ∧ wd a j < 18446744073709551616 := by
  have := h j hj
  unfold wd; omega
theorem vget_vset (v : Vector Int 4) (i j : Nat) (x : Int) (hi : i < 4) (hj : j < 4) : vget (vset v (i : Int) x) (j : Int) = if j = i then x else vget v (j : Int) := by
  unfold vget vset
  rw [Int.toNat_natCast, Int.toNat_natCast, Vector.toList_setIfInBounds, List.getD, List.getD, List.getElem?_set]
  by_cases e : i = j
  · subst e; rw [if_pos rfl, if_pos rfl, if_pos (by simpa using hi)]; rfl
  · rw [if_neg e, if_neg (fun h => e h.symm)]
theorem vext {a c : Vector Int 4} (h : ∀ j : Nat, j < 4 → vget a (j : Int) = vget c (j : Int)) : a = c := by
  apply Vector.toList_inj.1
  apply List.ext_getElem
  · simp
  · intro j h1 h2
    have hj : j < 4 := by simpa using h1
    have := h j hj
    unfold vget at this
    rw [Int.toNat_natCast, List.getD, List.getD, List.getElem?_eq_getElem h1, List.getElem?_eq_getElem h2] at this
    simpa using this
theorem ext_tb {a c : Vector Int 4} (ha : U a) (hc : U c) (h : ∀ b, b < 256 → tb a b = tb c b) : a = c := by
  apply vext
  intro j hj
  obtain ⟨e1, l1⟩ := wd_eq ha j hj
  obtain ⟨e2, l2⟩ := wd_eq hc j hj
  rw [e1, e2]
  congr 1
  apply Nat.eq_of_testBit_eq
  intro i
  by_cases hi : i < 64
  · have := h (64 * j + i) (by omega)
    unfold tb at this
    rwa [show (64 * j + i) / 64 = j by omega, show (64 * j + i) % 64 = i by omega] at this
  · have hp : 18446744073709551616 ≤ 2 ^ i := Nat.le_trans (by decide : 18446744073709551616 ≤ 2 ^ 64) (Nat.pow_le_pow_right (by omega) (by omega))
    rw [Nat.testBit_lt_two_pow (by omega), Nat.testBit_lt_two_pow (by omega)]
theorem U_zero : U (Vector.replicate 4 (0 : Int)) := by
  intro j hj
  have : vget (Vector.replicate 4 (0 : Int)) (j : Int) = 0 := by
    have : j = 0 ∨ j = 1 ∨ j = 2 ∨ j = 3 := by omega
    rcases this with rfl | rfl | rfl | rfl <;> rfl
  rw [this]; omega
theorem tb_zero (b : Nat) (hb : b < 256) : tb (Vector.replicate 4 (0 : Int)) b = false := by
  have hj : b / 64 < 4 := by omega
  have : vget (Vector.replicate 4 (0 : Int)) ((b / 64 : Nat) : Int) = 0 := by
    generalize b / 64 = j at hj
    have : j = 0 ∨ j = 1 ∨ j = 2 ∨ j = 3 := by omega
    rcases this with rfl | rfl | rfl | rfl <;> rfl
  unfold tb wd
  rw [this]; simp
theorem U_of {a : Vector Int 4} (h : wf33 a) : U a := by
  intro j hj
  have h1 : j < a.toList.length := by simpa using hj
  have h2 := h a.toList[j] (List.getElem_mem h1)
  have e : vget a (j : Int) = a.toList[j] := by
    unfold vget
    rw [Int.toNat_natCast, List.getD, List.getElem?_eq_getElem h1]; rfl
  rw [e]
  have h2' : (Lit.int .u64 a.toList[j]).wf = true := h2
  have : 0 ≤ a.toList[j] ∧ a.toList[j] ≤ 18446744073709551615 := by
    generalize a.toList[j] = z at h2'
    simpa [Lit.wf, show IntKind.u64.min = 0 from rfl, show IntKind.u64.max = 18446744073709551615 from rfl] using h2'
  omega
/-- One bit set in a word. -/
theorem or_bit {w : Nat} (hw : w < 18446744073709551616) {i : Nat} (hi : i < 64) : bits .or .u64 (w : Int) (IntKind.u64.wrap ((1 : Int) * 2 ^ (min i IntKind.u64.bits))) = ((w ||| 2 ^ i : Nat) : Int) ∧ w ||| 2 ^ i < 18446744073709551616 := by
  have hp : (2 : Nat) ^ i < 18446744073709551616 := Nat.lt_of_lt_of_le (Nat.pow_lt_pow_right (by omega) hi) (by decide : 2 ^ 64 ≤ 18446744073709551616)
  have e : IntKind.u64.wrap ((1 : Int) * 2 ^ (min i IntKind.u64.bits)) = ((2 ^ i : Nat) : Int) := by
    rw [show min i IntKind.u64.bits = i by show min i 64 = i; omega]
    have := u64_eq (1 * 2 ^ i)
    unfold u64 at this
    rw [this]
    have e3 : ((1 : Int) * 2 ^ i) = ((2 ^ i : Nat) : Int) := by simp
    rw [e3]
    generalize 2 ^ i = q at hp ⊢
    omega
  rw [e, bits_or_u64_nat w (2 ^ i) hw hp]
  exact ⟨rfl, Nat.or_lt_two_pow (n := 64) hw hp⟩
/-- A byte put into a set. -/
theorem put_bit {a : Vector Int 4} (h : U a) {b : Nat} (hb : b < 256) : ∀ c, c = vset a ((b / 64 : Nat) : Int) (bits .or .u64 (vget a ((b / 64 : Nat) : Int)) (IntKind.u64.wrap ((1 : Int) * 2 ^ (min (b % 64) IntKind.u64.bits)))) → U c ∧ ∀ x, x < 256 → tb c x = (tb a x || decide (x = b)) := by
  rintro c rfl
  have hj : b / 64 < 4 := by omega
  obtain ⟨e, l⟩ := wd_eq h (b / 64) hj
  obtain ⟨o1, o2⟩ := or_bit l (i := b % 64) (by omega)
  rw [e, o1]
  constructor
  · intro j hj'
    rw [vget_vset _ _ _ _ hj hj']
    split
    · omega
    · exact h j hj'
  · intro x hx
    unfold tb wd
    rw [vget_vset _ _ _ _ hj (by omega)]
    by_cases q : x / 64 = b / 64
    · rw [if_pos q, Int.toNat_natCast, Nat.testBit_or, Nat.testBit_two_pow, q]
      congr 1
      rw [decide_eq_decide]; omega
    · rw [if_neg q]
      have : decide (x = b) = false := decide_eq_false (fun e => q (by rw [e]))
      rw [this, Bool.or_false]
theorem shr_eq (x k : Nat) (hk : k ≤ 64) : Int.fdiv (x : Int) (2 ^ (min (k : Int).toNat IntKind.u64.bits)) = ((x / 2 ^ k : Nat) : Int) := by
  rw [Int.toNat_natCast, show min k IntKind.u64.bits = k by show min k 64 = k; omega, Int.fdiv_eq_ediv_of_nonneg _ (by exact_mod_cast Nat.zero_le _)]
  norm_cast
theorem ix_i64 (i : Nat) (hi : i < 100000) : IntKind.i64.wrap ((i : Int).tdiv 64) = ((i / 64 : Nat) : Int) := by
  have h1 : (i : Int).tdiv 64 = ((i / 64 : Nat) : Int) := by rw [Int.tdiv_eq_ediv_of_nonneg (by omega)]; omega
  rw [h1]; have := w64_id (n := ((i / 64 : Nat) : Int)) (by omega) (by omega); exact this
theorem ix_u64 (i : Nat) (hi : i < 100000) : u64 ((i : Int).tmod 64) = ((i % 64 : Nat) : Int) := by
  have h1 : (i : Int).tmod 64 = ((i % 64 : Nat) : Int) := by rw [Int.tmod_eq_emod_of_nonneg (by omega)]; omega
  rw [h1, u64_eq]; omega
theorem tmod64 (i : Nat) : (i : Int).tmod 64 = ((i % 64 : Nat) : Int) := by rw [Int.tmod_eq_emod_of_nonneg (by omega)]; omega
theorem ix_u8 (i : Nat) (hi : i < 256) : IntKind.u8.wrap ((i : Int).tdiv 64) = ((i / 64 : Nat) : Int) := by
  have h1 : (i : Int).tdiv 64 = ((i / 64 : Nat) : Int) := by rw [Int.tdiv_eq_ediv_of_nonneg (by omega)]; omega
  rw [h1]; have := w8_id (n := ((i / 64 : Nat) : Int)) (by omega) (by omega); exact this
theorem rhas_l (x : Nat) (hx : x < 256) : ∀ (m i fuel : Nat) (w : Nat), i + m = x % 64 → m < fuel → w < 18446744073709551616 →
    bosketref02_Has_l1 2000 (x : Int) fuel (w : Int) (i : Int) = some (w.testBit m)
  | 0, i, f + 1, w, h, _, hw => by
    rw [bosketref02_Has_l1.eq_2, tmod64, if_neg (by omega), bosketref02_Has_c0, Nat.testBit_zero]
    congr 1
    rw [decide_eq_decide, Int.tmod_eq_emod_of_nonneg (by omega)]; omega
  | m + 1, i, f + 1, w, h, hf, hw => by
    have e : IntKind.u64.wrap ((w : Int).tdiv 2) = ((w / 2 : Nat) : Int) := by
      rw [Int.tdiv_eq_ediv_of_nonneg (by omega)]
      have := u64_eq ((w : Int) / 2)
      unfold u64 at this
      rw [this]; omega
    rw [bosketref02_Has_l1.eq_2, tmod64, if_pos (by omega), e, w64_id (by omega) (by omega)]
    have := rhas_l x hx m (i + 1) f (w / 2) (by omega) (by omega) (by omega)
    rw [Nat.testBit_succ]
    exact_mod_cast this
theorem rhas_eq {a : Vector Int 4} (ha : U a) {x : Nat} (hx : x < 256) : bosketref02_Has 2000 a (x : Int) = some (tb a x) := by
  obtain ⟨e, l⟩ := wd_eq ha (x / 64) (by omega)
  unfold bosketref02_Has
  rw [ix_i64 x (by omega), if_pos ⟨by omega, by omega⟩, e]
  have := rhas_l x hx (x % 64) 0 2000 (wd a (x / 64)) (by omega) (by omega) l
  exact this
theorem has_eq {a : Vector Int 4} (ha : U a) {x : Nat} (hx : x < 256) : byteset_Has 2000 a (x : Int) = some (tb a x) := by
  obtain ⟨e, l⟩ := wd_eq ha (x / 64) (by omega)
  unfold byteset_Has
  rw [ix_u8 x hx, tmod64, if_pos ⟨by omega, by omega⟩, if_pos (by omega), e, shr_eq _ (x % 64) (by omega)]
  have hb := bits_and_u64_nat (wd a (x / 64) / 2 ^ (x % 64)) 1 (Nat.lt_of_le_of_lt (Nat.div_le_self _ _) l) (by omega)
  have hb' : bits .and .u64 ((wd a (x / 64) / 2 ^ (x % 64) : Nat) : Int) 1 = _ := hb
  rw [hb']
  unfold tb
  congr 1
  rw [Nat.and_one_is_mod]
  have h2 : (wd a (x / 64)).testBit (x % 64) = (wd a (x / 64) / 2 ^ (x % 64)).testBit 0 := by
    rw [Nat.testBit_div_two_pow, Nat.zero_add]
  rw [h2, Nat.testBit_zero, decide_eq_decide]
  omega
end Go.Avl.T3
/- Machines that may be in several states: what both answer, as plain lists. -/
namespace Go.Avl.T3
open Go Go.RowKit Go.Proofs Go.Avl
set_option linter.all false
set_option maxRecDepth 10000

theorem lget_lt {α : Type} [Inhabited α] (l : List α) (i : Nat) (h : i < l.length) : lget l (i : Int) = l[i] := by simp [lget, List.getD, List.getElem?_eq_getElem h]
theorem lset_len {α : Type} (l : List α) (i : Int) (x : α) : (lset l i x).length = l.length := by simp [lset]
def NN (n : S24) : Nat := n.f0.toNat
/-- May an edge be? -/
def edB (n : S24) (e : S35) : Bool := decide (0 ≤ e.f0 ∧ e.f0 < n.f0 ∧ 0 ≤ e.f1 ∧ e.f1 < n.f0)
def rt0 (n : S24) : Bool := decide (0 ≤ n.f2 ∧ n.f2 < n.f0 ∧ 0 ≤ n.f3 ∧ n.f3 < n.f0)
def rtB (n : S24) : Bool := rt0 n && n.f1.all (edB n)
theorem rright_l (n : S24) (hl : n.f1.length ≤ 1000) : ∀ (d i m : Nat) (b : Bool), i + d = n.f1.length → d < m → bosketref06_Right_l1 2000 n m b (i : Int) = some (b && (n.f1.drop i).all (edB n))
  | 0, i, m + 1, b, hi, _ => by
    rw [bosketref06_Right_l1.eq_2, if_neg (by omega), bosketref06_Right_c0, List.drop_of_length_le (by omega)]; simp
  | d + 1, i, m + 1, b, hi, hm => by
    have hi' : i < n.f1.length := by omega
    have g : 0 ≤ (i : Int) ∧ (i : Int) < (n.f1.length : Int) := ⟨by omega, by omega⟩
    have ih := fun b => rright_l n hl d (i + 1) m b (by omega) (by omega)
    rw [bosketref06_Right_l1.eq_2, if_pos g.2, if_pos g, lget_lt _ i hi', List.drop_eq_getElem_cons hi', w64_id (by omega) (by omega), show (i : Int) + 1 = ((i + 1 : Nat) : Int) by omega]
    have key : (if b = true then if (0 : Int) ≤ n.f1[i].f0 then if n.f1[i].f0 < n.f0 then if (0 : Int) ≤ n.f1[i].f1 then some (decide (n.f1[i].f1 < n.f0)) else some false else some false else some false else some false) = some (b && edB n n.f1[i]) := by
      unfold edB
      cases b with
      | false => simp
      | true =>
        rw [if_pos rfl]
        by_cases a1 : (0 : Int) ≤ n.f1[i].f0
        · rw [if_pos a1]
          by_cases a2 : n.f1[i].f0 < n.f0
          · rw [if_pos a2]
            by_cases a3 : (0 : Int) ≤ n.f1[i].f1
            · rw [if_pos a3]; simp [a1, a2, a3]
            · rw [if_neg a3]; simp [a3]
          · rw [if_neg a2]; simp [a2]
        · rw [if_neg a1]; simp [a1]
    rw [key, Option.bind_some, ih, List.all_cons, Bool.and_assoc]
theorem rright_eq (n : S24) (hl : n.f1.length ≤ 1000) : bosketref06_Right 2000 n = some (rtB n) := by
  unfold bosketref06_Right rtB rt0
  have key : (if (0 : Int) ≤ n.f2 then if n.f2 < n.f0 then if (0 : Int) ≤ n.f3 then some (decide (n.f3 < n.f0)) else some false else some false else some false) = some (decide (0 ≤ n.f2 ∧ n.f2 < n.f0 ∧ 0 ≤ n.f3 ∧ n.f3 < n.f0)) := by
    by_cases a1 : (0 : Int) ≤ n.f2
    · rw [if_pos a1]
      by_cases a2 : n.f2 < n.f0
      · rw [if_pos a2]
        by_cases a3 : (0 : Int) ≤ n.f3
        · rw [if_pos a3]; simp [a1, a2, a3]
        · rw [if_neg a3]; simp [a3]
      · rw [if_neg a2]; simp [a2]
    · rw [if_neg a1]; simp [a1]
  have := rright_l n hl n.f1.length 0 2000 (decide (0 ≤ n.f2 ∧ n.f2 < n.f0 ∧ 0 ≤ n.f3 ∧ n.f3 < n.f0)) (by omega) (by omega)
  rw [key, Option.bind_some]
  simpa using this
theorem right_l (n : S24) (hl : n.f1.length ≤ 1000) : ∀ (d i m : Nat), i + d = n.f1.length → d < m → nfa_Right_l1 2000 n m (i : Int) = some ((n.f1.drop i).all (edB n))
  | 0, i, m + 1, hi, _ => by
    rw [nfa_Right_l1.eq_2, if_neg (by omega), nfa_Right_c0, List.drop_of_length_le (by omega)]; simp
  | d + 1, i, m + 1, hi, hm => by
    have hi' : i < n.f1.length := by omega
    have g : 0 ≤ (i : Int) ∧ (i : Int) < (n.f1.length : Int) := ⟨by omega, by omega⟩
    have ih := right_l n hl d (i + 1) m (by omega) (by omega)
    rw [nfa_Right_l1.eq_2, if_pos g.2, if_pos g, lget_lt _ i hi', List.drop_eq_getElem_cons hi', w64_id (by omega) (by omega), show (i : Int) + 1 = ((i + 1 : Nat) : Int) by omega, ih]
    have key : (if n.f1[i].f0 < (0 : Int) then some true else if n.f0 ≤ n.f1[i].f0 then some true else if n.f1[i].f1 < (0 : Int) then some true else some (decide (n.f0 ≤ n.f1[i].f1))) = some (!edB n n.f1[i]) := by
      unfold edB
      by_cases a1 : n.f1[i].f0 < (0 : Int)
      · rw [if_pos a1, decide_eq_false (by omega)]; rfl
      · rw [if_neg a1]
        by_cases a2 : n.f0 ≤ n.f1[i].f0
        · rw [if_pos a2, decide_eq_false (by omega)]; rfl
        · rw [if_neg a2]
          by_cases a3 : n.f1[i].f1 < (0 : Int)
          · rw [if_pos a3, decide_eq_false (by omega)]; rfl
          · rw [if_neg a3]
            by_cases a4 : n.f0 ≤ n.f1[i].f1
            · rw [decide_eq_true a4, decide_eq_false (by omega)]; rfl
            · rw [decide_eq_false a4, decide_eq_true (by omega)]; rfl
    rw [key, Option.bind_some, List.all_cons]
    cases edB n n.f1[i]
    · rw [if_pos (by decide)]; rfl
    · rw [if_neg (by decide), Bool.true_and]
theorem right_eq (n : S24) (hl : n.f1.length ≤ 1000) : nfa_Right 2000 n = some (rtB n) := by
  unfold nfa_Right rtB rt0
  have key : (if n.f2 < (0 : Int) then some true else if n.f0 ≤ n.f2 then some true else if n.f3 < (0 : Int) then some true else some (decide (n.f0 ≤ n.f3))) = some (!decide (0 ≤ n.f2 ∧ n.f2 < n.f0 ∧ 0 ≤ n.f3 ∧ n.f3 < n.f0)) := by
    by_cases a1 : n.f2 < (0 : Int)
    · rw [if_pos a1, decide_eq_false (by omega)]; rfl
    · rw [if_neg a1]
      by_cases a2 : n.f0 ≤ n.f2
      · rw [if_pos a2, decide_eq_false (by omega)]; rfl
      · rw [if_neg a2]
        by_cases a3 : n.f3 < (0 : Int)
        · rw [if_pos a3, decide_eq_false (by omega)]; rfl
        · rw [if_neg a3]
          by_cases a4 : n.f0 ≤ n.f3
          · rw [decide_eq_true a4, decide_eq_false (by omega)]; rfl
          · rw [decide_eq_false a4, decide_eq_true (by omega)]; rfl
  have := right_l n hl n.f1.length 0 2000 (by omega) (by omega)
  rw [key, Option.bind_some]
  cases decide (0 ≤ n.f2 ∧ n.f2 < n.f0 ∧ 0 ≤ n.f3 ∧ n.f3 < n.f0)
  · rfl
  · simpa using this

/-- A machine whose states are all there, not too large. -/
structure Rt (n : S24) : Prop where
  first : 0 ≤ n.f2 ∧ n.f2 < n.f0
  last : 0 ≤ n.f3 ∧ n.f3 < n.f0
  ed : ∀ e ∈ n.f1, 0 ≤ e.f0 ∧ e.f0 < n.f0 ∧ 0 ≤ e.f1 ∧ e.f1 < n.f0
  n1 : n.f0 ≤ 1000
  n2 : n.f1.length ≤ 1000
  u : ∀ e ∈ n.f1, U e.f2
theorem rt_of {n : S24} (h : rtB n = true) (h1 : n.f0 ≤ 1000) (h2 : n.f1.length ≤ 1000) (h3 : ∀ e ∈ n.f1, U e.f2) : Rt n := by
  simp only [rtB, rt0, Bool.and_eq_true, decide_eq_true_eq, List.all_eq_true, edB] at h
  exact ⟨⟨h.1.1, h.1.2.1⟩, h.1.2.2, h.2, h1, h2, h3⟩
theorem Rt.nn {n : S24} (h : Rt n) : ((NN n : Nat) : Int) = n.f0 := by have := h.first; unfold NN; omega
theorem Rt.rt {n : S24} (h : Rt n) : rtB n = true := by
  simp only [rtB, rt0, Bool.and_eq_true, decide_eq_true_eq, List.all_eq_true, edB]
  exact ⟨⟨h.first.1, h.first.2, h.last⟩, h.ed⟩

/-! Free edges. -/
def st1 (s : List Bool × Bool) (e : S35) : List Bool × Bool := if e.f3 = true ∧ lget s.1 e.f0 = true ∧ lget s.1 e.f1 = false then (lset s.1 e.f1 true, true) else s
def pass (l : List S35) (s : List Bool × Bool) : List Bool × Bool := l.foldl st1 s
theorem st1_len (s : List Bool × Bool) (e : S35) : (st1 s e).1.length = s.1.length := by
  unfold st1; split
  · exact lset_len _ _ _
  · rfl
theorem pass_len : ∀ (l : List S35) (s : List Bool × Bool), (pass l s).1.length = s.1.length
  | [], s => rfl
  | e :: l, s => by
    show (pass l (st1 s e)).1.length = _
    rw [pass_len l, st1_len]
theorem guard22 {x : List Bool} {e : S35} (N : Nat) (hx : x.length = N) (he : 0 ≤ e.f0 ∧ e.f0 < (N : Int) ∧ 0 ≤ e.f1 ∧ e.f1 < (N : Int)) :
    (if e.f3 = true then if 0 ≤ e.f0 ∧ e.f0 < (x.length : Int) then if (lget x e.f0) = true then if 0 ≤ e.f1 ∧ e.f1 < (x.length : Int) then some (!(lget x e.f1)) else none else some false else none else some false) = some (decide (e.f3 = true ∧ lget x e.f0 = true ∧ lget x e.f1 = false)) := by
  have g0 : 0 ≤ e.f0 ∧ e.f0 < (x.length : Int) := ⟨he.1, by omega⟩
  have g1 : 0 ≤ e.f1 ∧ e.f1 < (x.length : Int) := ⟨he.2.2.1, by omega⟩
  rw [if_pos g0, if_pos g1]
  cases e.f3 <;> cases lget x e.f0 <;> cases lget x e.f1 <;> simp
theorem close_l2 {n : S24} (h : Rt n) (rec9 : List Bool → Bool → Option (List Bool)) : ∀ (d i m : Nat) (x : List Bool) (b : Bool), i + d = n.f1.length → d < m → x.length = NN n →
    nfa_Close_l2 2000 rec9 n m x b (i : Int) = rec9 (pass (n.f1.drop i) (x, b)).1 (pass (n.f1.drop i) (x, b)).2
  | 0, i, m + 1, x, b, hi, _, hx => by
    rw [nfa_Close_l2.eq_2, if_neg (by omega), List.drop_of_length_le (by omega)]; rfl
  | d + 1, i, m + 1, x, b, hi, hm, hx => by
    have hi' : i < n.f1.length := by omega
    have g : 0 ≤ (i : Int) ∧ (i : Int) < (n.f1.length : Int) := ⟨by omega, by omega⟩
    have he := h.ed n.f1[i] (List.getElem_mem hi')
    have hN := h.n2
    have hf := h.first
    have hnn := h.nn
    rw [nfa_Close_l2.eq_2, if_pos g.2, if_pos g, lget_lt _ i hi', List.drop_eq_getElem_cons hi', guard22 (NN n) hx ⟨he.1, by have := he.2.1; omega, he.2.2.1, by have := he.2.2.2; omega⟩, Option.bind_some]
    show _ = rec9 (pass (n.f1.drop (i + 1)) (st1 (x, b) n.f1[i])).1 (pass (n.f1.drop (i + 1)) (st1 (x, b) n.f1[i])).2
    unfold st1
    by_cases q : n.f1[i].f3 = true ∧ lget x n.f1[i].f0 = true ∧ lget x n.f1[i].f1 = false
    · rw [if_pos (decide_eq_true q), if_pos q, if_pos ⟨he.2.2.1, by have := he.2.2.2; omega⟩, nfa_Close_c1, w64_id (by omega) (by omega)]
      have ih := close_l2 h rec9 d (i + 1) m (lset x n.f1[i].f1 true) true (by omega) (by omega) (by rw [lset_len, hx])
      exact_mod_cast ih
    · rw [if_neg (by simpa using q), if_neg q, nfa_Close_c1, w64_id (by omega) (by omega)]
      have ih := close_l2 h rec9 d (i + 1) m x b (by omega) (by omega) hx
      exact_mod_cast ih
theorem rclose_l4 {n : S24} (h : Rt n) (rec10 : List Bool → Int → Option (List Bool)) (x9 : Int) : ∀ (d i m : Nat) (x : List Bool) (b : Bool), i + d = n.f1.length → d < m → x.length = NN n →
    bosketref06_Close_l4 2000 rec10 n x9 m x b (i : Int) = bosketref06_Close_c2 2000 rec10 x9 (pass (n.f1.drop i) (x, b)).1 (pass (n.f1.drop i) (x, b)).2
  | 0, i, m + 1, x, b, hi, _, hx => by
    rw [bosketref06_Close_l4.eq_2, if_neg (by omega), List.drop_of_length_le (by omega)]; rfl
  | d + 1, i, m + 1, x, b, hi, hm, hx => by
    have hi' : i < n.f1.length := by omega
    have g : 0 ≤ (i : Int) ∧ (i : Int) < (n.f1.length : Int) := ⟨by omega, by omega⟩
    have he := h.ed n.f1[i] (List.getElem_mem hi')
    have hN := h.n2
    have hf := h.first
    have hnn := h.nn
    rw [bosketref06_Close_l4.eq_2, if_pos g.2, if_pos g, lget_lt _ i hi', List.drop_eq_getElem_cons hi', guard22 (NN n) hx ⟨he.1, by have := he.2.1; omega, he.2.2.1, by have := he.2.2.2; omega⟩, Option.bind_some]
    show _ = bosketref06_Close_c2 2000 rec10 x9 (pass (n.f1.drop (i + 1)) (st1 (x, b) n.f1[i])).1 (pass (n.f1.drop (i + 1)) (st1 (x, b) n.f1[i])).2
    unfold st1
    by_cases q : n.f1[i].f3 = true ∧ lget x n.f1[i].f0 = true ∧ lget x n.f1[i].f1 = false
    · rw [if_pos (decide_eq_true q), if_pos q, if_pos ⟨he.2.2.1, by have := he.2.2.2; omega⟩, bosketref06_Close_c3, w64_id (by omega) (by omega)]
      have ih := rclose_l4 h rec10 x9 d (i + 1) m (lset x n.f1[i].f1 true) true (by omega) (by omega) (by rw [lset_len, hx])
      exact_mod_cast ih
    · rw [if_neg (by simpa using q), if_neg q, bosketref06_Close_c3, w64_id (by omega) (by omega)]
      have ih := rclose_l4 h rec10 x9 d (i + 1) m x b (by omega) (by omega) hx
      exact_mod_cast ih
/-- How many states. -/
def cnt (x : List Bool) : Nat := x.count true
theorem cnt_le (x : List Bool) : cnt x ≤ x.length := List.count_le_length
theorem cnt_set : ∀ (x : List Bool) (i : Nat), i < x.length → x[i]? = some false → cnt (x.set i true) = cnt x + 1
  | b :: x, 0, _, h => by simp at h; subst h; simp [cnt]
  | b :: x, i + 1, hi, h => by
    have := cnt_set x i (by simpa using hi) (by simpa using h)
    simp only [cnt, List.set_cons_succ, List.count_cons] at this ⊢
    omega
theorem st1_cnt (s : List Bool × Bool) (e : S35) (he : 0 ≤ e.f1 ∧ e.f1 < (s.1.length : Int)) : st1 s e = s ∨ ((st1 s e).2 = true ∧ cnt (st1 s e).1 = cnt s.1 + 1) := by
  unfold st1
  split
  · rename_i q
    refine .inr ⟨rfl, ?_⟩
    have hi : e.f1.toNat < s.1.length := by omega
    refine cnt_set s.1 e.f1.toNat hi ?_
    have := q.2.2
    unfold lget at this
    rw [List.getD, List.getElem?_eq_getElem hi] at this
    rw [List.getElem?_eq_getElem hi]; simpa using this
  · exact .inl rfl
theorem pass_cnt (N : Int) : ∀ (l : List S35) (s : List Bool × Bool), (∀ e ∈ l, 0 ≤ e.f1 ∧ e.f1 < N) → (s.1.length : Int) = N → pass l s = s ∨ ((pass l s).2 = true ∧ cnt s.1 < cnt (pass l s).1)
  | [], s, _, _ => .inl rfl
  | e :: l, s, h, hs => by
    have ih := pass_cnt N l (st1 s e) (fun e' h' => h e' (by simp [h'])) (by rw [st1_len]; exact hs)
    show pass l (st1 s e) = s ∨ ((pass l (st1 s e)).2 = true ∧ cnt s.1 < cnt (pass l (st1 s e)).1)
    rcases st1_cnt s e (by rw [hs]; exact h e (by simp)) with q | ⟨q1, q2⟩
    · rw [q] at ih ⊢; exact ih
    · rcases ih with r | ⟨r1, r2⟩
      · rw [r]; exact .inr ⟨q1, by omega⟩
      · exact .inr ⟨r1, by omega⟩
/-- Round after round, as long as some state is new. -/
def cl (l : List S35) : Nat → List Bool → List Bool
  | 0, x => x
  | k + 1, x => if (pass l (x, false)).2 = true then cl l k (pass l (x, false)).1 else (pass l (x, false)).1
theorem cl_len (l : List S35) : ∀ (k : Nat) (x : List Bool), (cl l k x).length = x.length
  | 0, _ => rfl
  | k + 1, x => by
    rw [cl]; split
    · rw [cl_len l k, pass_len]
    · rw [pass_len]
theorem cl_more {n : S24} (h : Rt n) : ∀ (j : Nat) (x : List Bool), x.length = NN n → NN n - cnt x < j → cl n.f1 j x = cl n.f1 (j + 1) x
  | 0, x, _, h => by omega
  | j + 1, x, hx, hj => by
    rw [cl, cl]
    split
    · rename_i q
      have hp := pass_len n.f1 (x, false)
      have hle := cnt_le (pass n.f1 (x, false)).1
      have hf := h.first
      have hnn := h.nn
      rcases pass_cnt n.f0 n.f1 (x, false) (fun e he => ⟨(h.ed e he).2.2.1, (h.ed e he).2.2.2⟩) (by show (x.length : Int) = _; omega) with r | ⟨_, r⟩
      · rw [r] at q; cases q
      · have r' : cnt x < cnt (pass n.f1 (x, false)).1 := r
        have hp' : (pass n.f1 (x, false)).1.length = x.length := hp
        exact cl_more h j _ (hp'.trans hx) (by rw [hp'] at hle; omega)
    · rfl
/-- All that free edges lead to. -/
def CL (n : S24) (x : List Bool) : List Bool := cl n.f1 (NN n + 1) x
theorem CL_len (n : S24) (x : List Bool) : (CL n x).length = x.length := cl_len _ _ _
theorem cl_CL {n : S24} (h : Rt n) {x : List Bool} (hx : x.length = NN n) : ∀ {j : Nat}, NN n - cnt x < j → cl n.f1 j x = CL n x := by
  have up : ∀ (d j : Nat), NN n - cnt x < j → cl n.f1 j x = cl n.f1 (j + d) x := by
    intro d
    induction d with
    | zero => intro j _; rfl
    | succ d ih => intro j hj; rw [ih j hj, cl_more h (j + d) x hx (by omega)]; rfl
  intro j hj
  unfold CL
  rcases Nat.le_total j (NN n + 1) with q | q
  · have := up (NN n + 1 - j) j hj; rwa [show j + (NN n + 1 - j) = NN n + 1 by omega] at this
  · have := up (j - (NN n + 1)) (NN n + 1) (by omega); rw [show NN n + 1 + (j - (NN n + 1)) = j by omega] at this; exact this.symm
theorem pass_zero : ∀ (l : List S35) (x : List Bool) (b : Bool), cnt x = 0 → pass l (x, b) = (x, b)
  | [], _, _, _ => rfl
  | e :: l, x, b, h => by
    have : st1 (x, b) e = (x, b) := by
      unfold st1
      rw [if_neg]
      rintro ⟨_, q, _⟩
      have hm : true ∈ x := by
        simp only [lget, List.getD] at q
        cases hx : x[e.f0.toNat]? with
        | none => rw [hx] at q; cases q
        | some b => rw [hx] at q; simp at q; subst q; exact List.mem_of_getElem? hx
      have := List.count_pos_iff.2 hm
      unfold cnt at h; omega
    show pass l (st1 (x, b) e) = _
    rw [this, pass_zero l x b h]
theorem cl_N {n : S24} (h : Rt n) {x : List Bool} (hx : x.length = NN n) : cl n.f1 (NN n) x = CL n x := by
  by_cases q : cnt x = 0
  · have z : ∀ k, cl n.f1 k x = x := by
      intro k
      cases k with
      | zero => rfl
      | succ k => rw [cl, pass_zero n.f1 x false q, if_neg (fun e => Bool.noConfusion e)]
    unfold CL; rw [z, z]
  · have := h.first
    have hnn := h.nn
    exact cl_CL h hx (by omega)
theorem close_l3 {n : S24} (h : Rt n) : ∀ (m : Nat) (x : List Bool), x.length = NN n → NN n - cnt x + 1 < m → nfa_Close_l3 2000 n m x true = some (cl n.f1 m x)
  | m + 1, x, hx, hm => by
    have h2 := h.n2
    rw [nfa_Close_l3.eq_2, if_pos rfl]
    have e := close_l2 h (nfa_Close_l3 2000 n m) n.f1.length 0 2000 x false (by omega) (by omega) hx
    rw [Int.natCast_zero, List.drop_zero] at e
    rw [e, cl]
    have hp := pass_len n.f1 (x, false)
    have hp' : (pass n.f1 (x, false)).1.length = x.length := hp
    by_cases q : (pass n.f1 (x, false)).2 = true
    · rw [if_pos q, q]
      have hf := h.first
      have hnn := h.nn
      have hle := cnt_le (pass n.f1 (x, false)).1
      rcases pass_cnt n.f0 n.f1 (x, false) (fun e he => ⟨(h.ed e he).2.2.1, (h.ed e he).2.2.2⟩) (by show (x.length : Int) = _; omega) with r | ⟨_, r⟩
      · rw [r] at q; cases q
      · have r' : cnt x < cnt (pass n.f1 (x, false)).1 := r
        exact close_l3 h m _ (hp'.trans hx) (by rw [hp'] at hle; omega)
    · rw [if_neg q]
      cases m with
      | zero => omega
      | succ m => rw [nfa_Close_l3.eq_2, if_neg q, nfa_Close_c0]
/-- The states handed on: so many, those that lack are none. -/
def ini (n : S24) (x : List Bool) : List Bool := lcopy (List.replicate (NN n) false) x
theorem ini_len (n : S24) (x : List Bool) : (ini n x).length = NN n := by unfold ini; rw [lcopy_len, List.length_replicate]
theorem ini_self {n : S24} {x : List Bool} (hx : x.length = NN n) : ini n x = x := by
  unfold ini lcopy
  rw [List.length_replicate, List.take_of_length_le (by omega), List.drop_of_length_le (by simp; omega), List.append_nil]
theorem close_eq {n : S24} (h : Rt n) (x : List Bool) : nfa_Close 2000 n x = some (CL n (ini n x)) := by
  have h1 := h.n1
  have hf := h.first
  have hnn := h.nn
  unfold nfa_Close
  rw [show n.f0.toNat = NN n from rfl]
  rw [if_pos ⟨by omega, by omega, by omega⟩]
  show nfa_Close_l3 2000 n 2000 (ini n x) true = _
  rw [close_l3 h 2000 _ (ini_len n x) (by omega), cl_CL h (ini_len n x) (by omega)]
theorem rclose_l5 {n : S24} (h : Rt n) : ∀ (r i m : Nat) (x : List Bool), x.length = NN n → i + r = NN n → r < m → bosketref06_Close_l5 2000 n m x (i : Int) = some (cl n.f1 r x)
  | 0, i, m + 1, x, hx, hi, hm => by
    have hf := h.first
    have hnn := h.nn
    rw [bosketref06_Close_l5.eq_2, if_neg (by omega), bosketref06_Close_c0]; rfl
  | r + 1, i, m + 1, x, hx, hi, hm => by
    have h2 := h.n2
    have h1 := h.n1
    have hf := h.first
    have hnn := h.nn
    rw [bosketref06_Close_l5.eq_2, if_pos (by omega)]
    have e := rclose_l4 h (bosketref06_Close_l5 2000 n m) (i : Int) n.f1.length 0 2000 x false (by omega) (by omega) hx
    rw [Int.natCast_zero, List.drop_zero] at e
    rw [e, cl, bosketref06_Close_c2]
    have hp : (pass n.f1 (x, false)).1.length = x.length := pass_len n.f1 (x, false)
    by_cases q : (pass n.f1 (x, false)).2 = true
    · rw [if_neg (by simp [q]), if_pos q, bosketref06_Close_c1, w64_id (by omega) (by omega)]
      have ih := rclose_l5 h r (i + 1) m (pass n.f1 (x, false)).1 (by omega) (by omega) (by omega)
      exact_mod_cast ih
    · rw [if_pos (by simpa using q), if_neg q]
theorem rclose_l7 {n : S24} (h : Rt n) (p : List Bool) (hp : p.length ≤ 1000) : ∀ (d i m : Nat), i + d = min (NN n) p.length → d < m →
    bosketref06_Close_l7 2000 n p m (p.take i ++ List.replicate (NN n - i) false) (i : Int) = bosketref06_Close_c6 2000 n (ini n p)
  | 0, i, m + 1, hi, hm => by
    have hf := h.first
    have hnn := h.nn
    rw [bosketref06_Close_l7.eq_2]
    have e : p.take i ++ List.replicate (NN n - i) false = ini n p := by
      unfold ini lcopy
      rw [List.length_replicate, List.drop_replicate]
      by_cases q : p.length ≤ NN n
      · rw [List.take_of_length_le (by omega), List.take_of_length_le (by omega), show NN n - i = NN n - p.length by omega]
      · rw [show i = NN n by omega, Nat.sub_self, show NN n - p.length = 0 by omega]
    by_cases q : (i : Int) < n.f0
    · rw [if_pos q, Option.bind_some, if_neg (by simp; omega), e]
    · rw [if_neg q, Option.bind_some, if_neg (by decide), e]
  | d + 1, i, m + 1, hi, hm => by
    have hf := h.first
    have hnn := h.nn
    have h1 := h.n1
    have hi' : i < p.length := by omega
    have hlen : (p.take i ++ List.replicate (NN n - i) false).length = NN n := by simp; omega
    rw [bosketref06_Close_l7.eq_2, if_pos (by omega), Option.bind_some, if_pos (by simp; omega), if_pos ⟨by omega, by omega⟩, if_pos ⟨by omega, by rw [hlen]; omega⟩, lget_lt p i hi', w64_id (by omega) (by omega)]
    have e : lset (p.take i ++ List.replicate (NN n - i) false) (i : Int) p[i] = p.take (i + 1) ++ List.replicate (NN n - (i + 1)) false := by
      unfold lset
      rw [Int.toNat_natCast, List.set_append_right _ _ (by simp; omega), show (i - (p.take i).length) = 0 by simp; omega, show NN n - i = (NN n - (i + 1)) + 1 by omega, List.replicate_succ, List.set_cons_zero, ← List.take_append_getElem hi', List.append_assoc]; rfl
    rw [e]
    have ih := rclose_l7 h p hp d (i + 1) m (by omega) (by omega)
    exact_mod_cast ih
theorem rclose_eq {n : S24} (h : Rt n) (x : List Bool) (hx : x.length ≤ 1000) : bosketref06_Close 2000 n x = some (CL n (ini n x)) := by
  have h1 := h.n1
  have hf := h.first
  have hnn := h.nn
  unfold bosketref06_Close
  rw [show n.f0.toNat = NN n from rfl]
  rw [if_pos ⟨by omega, by omega, by omega⟩]
  have e := rclose_l7 h x hx (min (NN n) x.length) 0 2000 (by omega) (by omega)
  rw [Int.natCast_zero, List.take_zero, List.nil_append, Nat.sub_zero] at e
  rw [e, bosketref06_Close_c6]
  have e2 := rclose_l5 h (NN n) 0 2000 (ini n x) (ini_len n x) (by omega) (by omega)
  rw [Int.natCast_zero] at e2
  rw [e2, cl_N h (ini_len n x)]
/-! By a byte. -/
def mv1 (x : List Bool) (b : Nat) (o : List Bool) (e : S35) : List Bool := if e.f3 = false ∧ e.f0 < (x.length : Int) ∧ lget x e.f0 = true ∧ tb e.f2 b = true then lset o e.f1 true else o
def MV (n : S24) (x : List Bool) (b : Nat) : List Bool := n.f1.foldl (mv1 x b) (List.replicate (NN n) false)
theorem mv1_len (x : List Bool) (b : Nat) (o : List Bool) (e : S35) : (mv1 x b o e).length = o.length := by
  unfold mv1; split
  · exact lset_len _ _ _
  · rfl
theorem mvf_len (x : List Bool) (b : Nat) : ∀ (l : List S35) (o : List Bool), (l.foldl (mv1 x b) o).length = o.length
  | [], _ => rfl
  | e :: l, o => by rw [List.foldl_cons, mvf_len x b l, mv1_len]
theorem MV_len (n : S24) (x : List Bool) (b : Nat) : (MV n x b).length = NN n := by unfold MV; rw [mvf_len, List.length_replicate]
theorem guard16 {x : List Bool} {e : S35} {t : Option Bool} {b : Nat} (he : 0 ≤ e.f0) (ht : t = some (tb e.f2 b)) :
    (if (!(e.f3)) = true then if e.f0 < (x.length : Int) then if 0 ≤ e.f0 ∧ e.f0 < (x.length : Int) then if (lget x e.f0) = true then t.bind fun t22 => some (t22) else some (false) else none else some (false) else some (false)) = some (decide (e.f3 = false ∧ e.f0 < (x.length : Int) ∧ lget x e.f0 = true ∧ tb e.f2 b = true)) := by
  subst ht
  by_cases q : e.f0 < (x.length : Int)
  · cases e.f3 <;> cases lget x e.f0 <;> simp [q, he]
  · cases e.f3 <;> simp [q]
theorem move_l {n : S24} (h : Rt n) (x : List Bool) {b : Nat} (hb : b < 256) : ∀ (d i m : Nat) (o : List Bool), i + d = n.f1.length → d < m → o.length = NN n →
    nfa_Move_l2 2000 n x (b : Int) m o (i : Int) = some ((n.f1.drop i).foldl (mv1 x b) o)
  | 0, i, m + 1, o, hi, _, ho => by
    rw [nfa_Move_l2.eq_2, if_neg (by omega), List.drop_of_length_le (by omega), nfa_Move_c0]; rfl
  | d + 1, i, m + 1, o, hi, hm, ho => by
    have hi' : i < n.f1.length := by omega
    have g : 0 ≤ (i : Int) ∧ (i : Int) < (n.f1.length : Int) := ⟨by omega, by omega⟩
    have he := h.ed n.f1[i] (List.getElem_mem hi')
    have hN := h.n2
    have hf := h.first
    have hnn := h.nn
    rw [nfa_Move_l2.eq_2, if_pos g.2, if_pos g, lget_lt _ i hi', List.drop_eq_getElem_cons hi', guard16 he.1 (has_eq (h.u _ (List.getElem_mem hi')) hb), Option.bind_some, List.foldl_cons]
    unfold mv1
    by_cases q : n.f1[i].f3 = false ∧ n.f1[i].f0 < (x.length : Int) ∧ lget x n.f1[i].f0 = true ∧ tb n.f1[i].f2 b = true
    · rw [if_pos (decide_eq_true q), if_pos q, if_pos ⟨he.2.2.1, by have := he.2.2.2; omega⟩, nfa_Move_c1, w64_id (by omega) (by omega)]
      have ih := move_l h x hb d (i + 1) m (lset o n.f1[i].f1 true) (by omega) (by omega) (by rw [lset_len, ho])
      unfold mv1 at ih
      exact_mod_cast ih
    · rw [if_neg (by simpa using q), if_neg q, nfa_Move_c1, w64_id (by omega) (by omega)]
      have ih := move_l h x hb d (i + 1) m o (by omega) (by omega) ho
      unfold mv1 at ih
      exact_mod_cast ih
theorem rmove_l {n : S24} (h : Rt n) (x : List Bool) {b : Nat} (hb : b < 256) : ∀ (d i m : Nat) (o : List Bool), i + d = n.f1.length → d < m → o.length = NN n →
    bosketref06_Move_l2 2000 n x (b : Int) m o (i : Int) = some ((n.f1.drop i).foldl (mv1 x b) o)
  | 0, i, m + 1, o, hi, _, ho => by
    rw [bosketref06_Move_l2.eq_2, if_neg (by omega), List.drop_of_length_le (by omega), bosketref06_Move_c0]; rfl
  | d + 1, i, m + 1, o, hi, hm, ho => by
    have hi' : i < n.f1.length := by omega
    have g : 0 ≤ (i : Int) ∧ (i : Int) < (n.f1.length : Int) := ⟨by omega, by omega⟩
    have he := h.ed n.f1[i] (List.getElem_mem hi')
    have hN := h.n2
    have hf := h.first
    have hnn := h.nn
    rw [bosketref06_Move_l2.eq_2, if_pos g.2, if_pos g, lget_lt _ i hi', List.drop_eq_getElem_cons hi', guard16 he.1 (rhas_eq (h.u _ (List.getElem_mem hi')) hb), Option.bind_some, List.foldl_cons]
    unfold mv1
    by_cases q : n.f1[i].f3 = false ∧ n.f1[i].f0 < (x.length : Int) ∧ lget x n.f1[i].f0 = true ∧ tb n.f1[i].f2 b = true
    · rw [if_pos (decide_eq_true q), if_pos q, if_pos ⟨he.2.2.1, by have := he.2.2.2; omega⟩, bosketref06_Move_c1, w64_id (by omega) (by omega)]
      have ih := rmove_l h x hb d (i + 1) m (lset o n.f1[i].f1 true) (by omega) (by omega) (by rw [lset_len, ho])
      unfold mv1 at ih
      exact_mod_cast ih
    · rw [if_neg (by simpa using q), if_neg q, bosketref06_Move_c1, w64_id (by omega) (by omega)]
      have ih := rmove_l h x hb d (i + 1) m o (by omega) (by omega) ho
      unfold mv1 at ih
      exact_mod_cast ih
theorem move_eq {n : S24} (h : Rt n) (x : List Bool) {c : Int} (h0 : 0 ≤ c) (h1 : c ≤ 255) : nfa_Move 2000 n x c = some (MV n x c.toNat) := by
  obtain ⟨b, rfl⟩ := Int.eq_ofNat_of_zero_le h0
  have hn1 := h.n1
  have hn2 := h.n2
  have hf := h.first
  have hnn := h.nn
  unfold nfa_Move
  rw [show n.f0.toNat = NN n from rfl]
  rw [if_pos ⟨by omega, by omega, by omega⟩]
  have := move_l h x (b := b) (by omega) n.f1.length 0 2000 (List.replicate (NN n) false) (by omega) (by omega) (by simp)
  rw [Int.natCast_zero, List.drop_zero] at this
  exact this
theorem rmove_eq {n : S24} (h : Rt n) (x : List Bool) {c : Int} (h0 : 0 ≤ c) (h1 : c ≤ 255) : bosketref06_Move 2000 n x c = some (MV n x c.toNat) := by
  obtain ⟨b, rfl⟩ := Int.eq_ofNat_of_zero_le h0
  have hn1 := h.n1
  have hn2 := h.n2
  have hf := h.first
  have hnn := h.nn
  unfold bosketref06_Move
  rw [show n.f0.toNat = NN n from rfl]
  rw [if_pos ⟨by omega, by omega, by omega⟩]
  have := rmove_l h x (b := b) (by omega) n.f1.length 0 2000 (List.replicate (NN n) false) (by omega) (by omega) (by simp)
  rw [Int.natCast_zero, List.drop_zero] at this
  exact this
/-! By a text. -/
def RN (n : S24) (s : ByteArray) : Nat → List Bool
  | 0 => CL n (lset (List.replicate (NN n) false) n.f2 true)
  | i + 1 => CL n (MV n (RN n s i) (byteAt s i).toNat)
theorem RN_len (n : S24) (s : ByteArray) : ∀ i, (RN n s i).length = NN n
  | 0 => by rw [RN, CL_len, lset_len, List.length_replicate]
  | i + 1 => by rw [RN, CL_len, MV_len]
theorem has_l {n : S24} (h : Rt n) (s : ByteArray) (hs : s.size ≤ 1000) : ∀ (d i m : Nat), i + d = s.size → d < m → nfa_Has_l1 2000 n s m (RN n s i) (i : Int) = some (lget (RN n s s.size) n.f3)
  | 0, i, m + 1, hi, _ => by
    have hl := h.last
    have hnn := h.nn
    have hz := RN_len n s i
    rw [nfa_Has_l1.eq_2, if_neg (by omega), nfa_Has_c0, if_pos ⟨hl.1, by rw [hz]; omega⟩, show i = s.size by omega]
  | d + 1, i, m + 1, hi, hm => by
    have hb := byteAt_u8 s i
    rw [nfa_Has_l1.eq_2, if_pos (by omega), if_pos ⟨by omega, by omega⟩, move_eq h _ hb.1 hb.2, Option.bind_some, close_eq h, Option.bind_some, ini_self (MV_len _ _ _), w64_id (by omega) (by omega)]
    have ih := has_l h s hs d (i + 1) m (by omega) (by omega)
    rw [RN] at ih
    exact_mod_cast ih
theorem nhas_eq {n : S24} (h : Rt n) (s : ByteArray) (hs : s.size ≤ 1000) : nfa_Has 2000 n s = some (lget (RN n s s.size) n.f3) := by
  have hn1 := h.n1
  have hf := h.first
  have hnn := h.nn
  unfold nfa_Has
  rw [show n.f0.toNat = NN n from rfl]
  rw [right_eq n h.n2, h.rt, Option.bind_some, if_neg (by decide), if_pos ⟨by omega, by omega, by omega⟩, if_pos ⟨hf.1, by simp; omega⟩, close_eq h, Option.bind_some, ini_self (by rw [lset_len, List.length_replicate])]
  exact_mod_cast has_l h s hs s.size 0 2000 (by omega) (by omega)
theorem nhas_not {n : S24} (h : rtB n = false) (h2 : n.f1.length ≤ 1000) (s : ByteArray) : nfa_Has 2000 n s = some false := by
  unfold nfa_Has
  rw [right_eq n h2, h]; rfl
theorem run_l {n : S24} (h : Rt n) (s : ByteArray) (hs : s.size ≤ 1000) : ∀ (d i m : Nat), i + d = s.size → d < m → bosketref06_Run_l1 2000 n s m (RN n s i) (i : Int) = some (RN n s s.size)
  | 0, i, m + 1, hi, _ => by
    rw [bosketref06_Run_l1.eq_2, if_neg (by omega), bosketref06_Run_c0, show i = s.size by omega]
  | d + 1, i, m + 1, hi, hm => by
    have hb := byteAt_u8 s i
    have hn := h.n1
    have hf := h.first
    have hnn := h.nn
    rw [bosketref06_Run_l1.eq_2, if_pos (by omega), if_pos ⟨by omega, by omega⟩, w64_id (n := byteAt s i) (by omega) (by omega), rmove_eq h _ hb.1 hb.2, Option.bind_some, rclose_eq h _ (by rw [MV_len]; omega), Option.bind_some, ini_self (MV_len _ _ _), w64_id (by omega) (by omega)]
    have ih := run_l h s hs d (i + 1) m (by omega) (by omega)
    rw [RN] at ih
    exact_mod_cast ih
theorem nrun_eq {n : S24} (h : Rt n) (s : ByteArray) (hs : s.size ≤ 1000) : bosketref06_Run 2000 n s = some (RN n s s.size) := by
  have hn1 := h.n1
  have hf := h.first
  have hnn := h.nn
  unfold bosketref06_Run
  rw [show n.f0.toNat = NN n from rfl]
  rw [if_pos ⟨by omega, by omega, by omega⟩, if_pos ⟨hf.1, by simp; omega⟩, rclose_eq h _ (by rw [lset_len, List.length_replicate]; omega), Option.bind_some, ini_self (by rw [lset_len, List.length_replicate])]
  exact_mod_cast run_l h s hs s.size 0 2000 (by omega) (by omega)
theorem same_l (l : List Bool) (hl : l.length ≤ 1000) : ∀ (d i m : Nat), i + d = l.length → d < m → bosketref06_Same_l1 2000 l l m (i : Int) = some true
  | 0, i, m + 1, hi, _ => by rw [bosketref06_Same_l1.eq_2, if_neg (by omega)]; rfl
  | d + 1, i, m + 1, hi, hm => by
    have ih := same_l l hl d (i + 1) m (by omega) (by omega)
    rw [bosketref06_Same_l1.eq_2, if_pos (by omega), if_pos ⟨by omega, by omega⟩, if_pos ⟨by omega, by omega⟩, if_neg (by simp), w64_id (by omega) (by omega)]
    exact_mod_cast ih
theorem same_eq (l : List Bool) (hl : l.length ≤ 1000) : bosketref06_Same 2000 l l = some true := by
  unfold bosketref06_Same
  rw [if_neg (by simp)]
  exact_mod_cast same_l l hl l.length 0 2000 (by omega) (by omega)
end Go.Avl.T3
/- NfaSteps: the plain law. -/
namespace Go.Avl.T3
open Go Go.RowKit Go.Proofs Go.Avl
set_option linter.all false
set_option maxRecDepth 10000

theorem awake06 : bosketlaw06_awake 2000 = some true := by decide +kernel
def sts (l : List S35) : List (Vector Int 4) := (l.filter fun e => !e.f3).map (·.f2)
theorem sts_cons (e : S35) (l : List S35) : sts (e :: l) = if e.f3 = true then sts l else e.f2 :: sts l := by
  unfold sts
  cases h : e.f3 <;> simp [h]
theorem sts_len (l : List S35) : (sts l).length ≤ l.length := by
  unfold sts; rw [List.length_map]; exact List.length_filter_le _ _
theorem sts_app (a b : List S35) : sts (a ++ b) = sts a ++ sts b := by simp [sts]
theorem sets_l (n : S24) (hl : n.f1.length ≤ 1000) : ∀ (d i m : Nat) (acc : List (Vector Int 4)), i + d = n.f1.length → d < m → acc.length ≤ i → nfa_Sets_l2 2000 n m acc (i : Int) = some (acc ++ sts (n.f1.drop i))
  | 0, i, m + 1, acc, hi, _, ha => by
    rw [nfa_Sets_l2.eq_2, if_neg (by omega), List.drop_of_length_le (by omega), nfa_Sets_c0]; simp [sts]
  | d + 1, i, m + 1, acc, hi, hm, ha => by
    have hi' : i < n.f1.length := by omega
    have g : 0 ≤ (i : Int) ∧ (i : Int) < (n.f1.length : Int) := ⟨by omega, by omega⟩
    rw [nfa_Sets_l2.eq_2, if_pos g.2, if_pos g, lget_lt _ i hi', List.drop_eq_getElem_cons hi', sts_cons]
    unfold nfa_Sets_c1
    rw [w64_id (by omega) (by omega)]
    by_cases q : n.f1[i].f3 = true
    · rw [if_neg (by rw [q]; decide), if_pos q]
      have ih := sets_l n hl d (i + 1) m acc (by omega) (by omega) (by omega)
      exact_mod_cast ih
    · rw [if_pos (by rw [Bool.eq_false_iff.2 q]; rfl), if_neg q, if_pos (by simp; omega)]
      have ih := sets_l n hl d (i + 1) m (acc ++ [n.f1[i].f2]) (by omega) (by omega) (by simp; omega)
      rw [List.append_assoc] at ih
      exact_mod_cast ih
theorem sets_eq (n : S24) (hl : n.f1.length ≤ 1000) : nfa_Sets 2000 n = some (sts n.f1) := by
  have := sets_l n hl n.f1.length 0 2000 [] (by omega) (by omega) (by simp)
  rw [Int.natCast_zero, List.drop_zero, List.nil_append] at this
  exact this
theorem vlget (l : List (Vector Int 4)) (i : Nat) (h : i < l.length) : lget l (i : Int) = l[i] := lget_lt l i h
theorem steps_l (n : S24) (p1 : List Bool) (s : ByteArray) (hl : n.f1.length ≤ 1000) : ∀ (d i m : Nat), i + d = n.f1.length → d < m →
    bosketlaw06_NfaSteps_l3 2000 n p1 s (sts n.f1) m ((sts (n.f1.take i)).length : Int) (i : Int) = bosketlaw06_NfaSteps_c1 2000 n p1 s (sts n.f1) ((sts n.f1).length : Int)
  | 0, i, m + 1, hi, _ => by
    rw [bosketlaw06_NfaSteps_l3.eq_2, if_neg (by omega), List.take_of_length_le (by omega)]
  | d + 1, i, m + 1, hi, hm => by
    have hi' : i < n.f1.length := by omega
    have g : 0 ≤ (i : Int) ∧ (i : Int) < (n.f1.length : Int) := ⟨by omega, by omega⟩
    have ih := steps_l n p1 s hl d (i + 1) m (by omega) (by omega)
    have ht : sts (n.f1.take (i + 1)) = sts (n.f1.take i) ++ (if n.f1[i].f3 = true then [] else [n.f1[i].f2]) := by
      rw [← List.take_append_getElem hi', sts_app, sts_cons]; rfl
    have hz := sts_len (n.f1.take i)
    rw [List.length_take] at hz
    rw [bosketlaw06_NfaSteps_l3.eq_2, if_pos g.2, if_pos g, lget_lt _ i hi', if_pos g]
    unfold bosketlaw06_NfaSteps_c2
    rw [w64_id (n := (i : Int) + 1) (by omega) (by omega)]
    by_cases q : n.f1[i].f3 = true
    · rw [if_pos q, List.append_nil] at ht
      rw [ht] at ih
      rw [if_pos q]
      exact_mod_cast ih
    · rw [if_neg q] at ht
      have hall : sts n.f1 = sts (n.f1.take i) ++ (n.f1[i].f2 :: sts (n.f1.drop (i + 1))) := by
        conv => lhs; rw [← List.take_append_drop (i + 1) n.f1, sts_app, ht]
        simp
      have hk : (sts (n.f1.take i)).length < (sts n.f1).length := by rw [hall, List.length_append, List.length_cons]; omega
      have hget : (sts n.f1)[(sts (n.f1.take i)).length] = n.f1[i].f2 := by
        simp only [hall]
        rw [List.getElem_append_right (Nat.le_refl _)]
        simp
      rw [if_neg q, if_neg (by omega), if_pos ⟨by omega, by omega⟩, vlget _ _ hk, hget, Option.bind_some, if_neg (by simp), w64_id (by omega) (by omega)]
      rw [ht, List.length_append, List.length_singleton] at ih
      exact_mod_cast ih
theorem wf33_U {a : Vector Int 4} (h : wf33 a) : U a := U_of h
theorem emp_iff (s : ByteArray) : s = ByteArray.mk #[] ↔ s.size = 0 := by
  constructor
  · intro h; subst h; rfl
  · intro h
    obtain ⟨a⟩ := s
    have : a = #[] := Array.eq_empty_of_size_eq_zero h
    rw [this]
theorem steps_c0 {n : S24} (h : Rt n) (x : List Bool) (hx : x.length ≤ 1000) (s : ByteArray) (hs : s.size ≤ 1000) {b : Int} (h0 : 0 ≤ b) (h1 : b ≤ 255) :
    bosketlaw06_NfaSteps_c0 2000 n x s (sts n.f1) ((sts n.f1).length : Int) b = some true := by
  have hn := h.n1
  have hnn := h.nn
  have hl := h.last
  have hf := h.first
  unfold bosketlaw06_NfaSteps_c0
  rw [if_pos rfl, right_eq n h.n2, h.rt, Option.bind_some, if_pos rfl, close_eq h, Option.bind_some, rclose_eq h x hx, Option.bind_some, same_eq _ (by rw [CL_len, ini_len]; omega), Option.bind_some, if_pos rfl,
    move_eq h x h0 h1, Option.bind_some, w64_id (by omega) (by omega), rmove_eq h x h0 h1, Option.bind_some, same_eq _ (by rw [MV_len]; omega), Option.bind_some, if_pos rfl, nhas_eq h s hs, Option.bind_some, nrun_eq h s hs, Option.bind_some, if_pos ⟨hl.1, by rw [RN_len]; omega⟩]
  simp
theorem bosketlaw06_NfaSteps_true (a0 : S24) (a1 : (List Bool)) (a2 : ByteArray) (h0 : wf24 a0) (h1 : wf25 a1) (h2 : wf9 a2) (h3 : a2.size ≤ 140737488351232) : ∃ k, bosketlaw06_NfaSteps k a0 a1 a2 = some true := by
  refine ⟨2000, ?_⟩
  unfold bosketlaw06_NfaSteps
  rw [awake06, Option.bind_some, if_neg (by decide)]
  by_cases z1 : (60 : Int) < a0.f0
  · rw [if_pos z1]; rfl
  by_cases z2 : (200 : Int) < (a0.f1.length : Int)
  · rw [if_neg z1, if_pos z2]; rfl
  by_cases z3 : (100 : Int) < (a1.length : Int)
  · rw [if_neg z1, if_neg z2, if_pos z3]; rfl
  rw [if_neg z1, if_neg z2, if_neg z3, Option.bind_some]
  by_cases z4 : (20 : Int) < (a2.size : Int)
  · rw [if_pos (by simpa using z4)]
  rw [if_neg (by simpa using z4), rright_eq a0 (by omega), Option.bind_some]
  cases hr : rtB a0 with
  | false =>
    rw [if_pos (by decide), right_eq a0 (by omega), hr, Option.bind_some, if_pos (by decide), nhas_not hr (by omega)]; rfl
  | true =>
    have h : Rt a0 := rt_of hr (by omega) (by omega) fun e he => wf33_U (h0.2.1.2 e he).2.2.1
    rw [if_neg (by decide), sets_eq a0 (by omega), Option.bind_some]
    have e := steps_l a0 a1 a2 (by omega) a0.f1.length 0 2000 (by omega) (by omega)
    have e' : bosketlaw06_NfaSteps_l3 2000 a0 a1 a2 (sts a0.f1) 2000 0 0 = bosketlaw06_NfaSteps_c1 2000 a0 a1 a2 (sts a0.f1) ((sts a0.f1).length : Int) := e
    rw [e', bosketlaw06_NfaSteps_c1]
    by_cases q : a2 = ByteArray.mk #[]
    · rw [if_neg (by simpa using q)]
      exact steps_c0 h a1 (by omega) a2 (by omega) (by omega) (by omega)
    · have : a2.size ≠ 0 := fun e => q ((emp_iff a2).2 e)
      have hb := byteAt_u8 a2 0
      rw [if_pos q, if_pos ⟨by omega, by omega⟩]
      exact steps_c0 h a1 (by omega) a2 (by omega) hb.1 hb.2
end Go.Avl.T3
