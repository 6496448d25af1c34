/- Parts: T3W, T3S1, T3N1, T3N2, T3PureNfaUnions. -/
import Derived.Test.YtcdennkoccjacaaAF1
import Derived.Test.YtcdennkoccjacaaAv4
import Derived.Laws.Bits64b
import Derived.Test.YtcdennkoccjacaaAF2
import Derived.Test.YtcdennkoccjacaaAF3
import Derived.Test.YtcdennkoccjacaaAF5
import Derived.Test.YtcdennkoccjacaaAF6
/- Opening of the arguments; printed by avlaw.py. -/
namespace Go.Avl.T3
open Go Go.RowKit Go.Proofs Go.Avl
set_option linter.unusedVariables false
set_option maxRecDepth 100000
abbrev e22 (l : List S35) : AV := .fz 7 (l.map e35)
abbrev e42 (l : List S24) : AV := .fz 4 (l.map e24)
abbrev e47 (v : Vector Int 256) : AV := .ar 1 (v.toList.map eU8)
abbrev e48 (l : List (List Int)) : AV := .fz 1 (l.map e43)
abbrev e51 (v : Vector Int 2) : AV := .ar 1 (v.toList.map eU8)
abbrev e59 (v : Vector ByteArray 2) : AV := .ar 1 (v.toList.map eStr)
theorem ag25 : tyAgg Try.prog 25 = some false := by rfl
theorem ag42 : tyAgg Try.prog 42 = some false := by rfl
theorem sz51 : tySize Try.prog 51 = some 2 := by rfl
theorem ag51 : tyAgg Try.prog 51 = some true := by rfl
theorem sz59 : tySize Try.prog 59 = some 2 := by rfl
theorem ag59 : tyAgg Try.prog 59 = some true := by rfl
theorem ag60 : tyAgg Try.prog 60 = some false := by rfl
abbrev wf3 : Int → Prop := (fun n : Int => (Lit.int .i64 n).wf = true)
theorem op3 : Opens Try.prog 3 eI64 wf3 := opens_int Try.underlying3
abbrev wf31 : Int → Prop := (fun n : Int => (Lit.int .u64 n).wf = true)
theorem op31 : Opens Try.prog 31 eU64 wf31 := opens_int Try.underlying31
abbrev wf33 : (Vector Int 4) → Prop := (fun l : Vector Int 4 => ∀ a ∈ l.toList, wf31 a)
theorem op33 : Opens Try.prog 33 e33 wf33 := opens_array Try.underlying33 sz31 sz33 op31
abbrev wf4 : Bool → Prop := (fun _ : Bool => True)
theorem op4 : Opens Try.prog 4 eBool wf4 := opens_bool Try.underlying4
abbrev wf35 : S35 → Prop := (fun x : S35 => wf3 x.f0 ∧ wf3 x.f1 ∧ wf33 x.f2 ∧ wf4 x.f3)
theorem op35 : Opens Try.prog 35 e35 wf35 := (opens_struct Try.underlying35 sz35 (opensF_cons rfl sz3 (by decide) op3 (opensF_cons rfl sz3 (by decide) op3 (opensF_cons rfl sz33 (by decide) op33 (opensF_cons rfl sz4 (by decide) op4 (opensF_nil _)))))).map (fun p => S35.mk p.1 p.2.1 p.2.2.1 p.2.2.2.1) (fun _ => rfl) (fun _ h => ⟨h.1, h.2.1, h.2.2.1, h.2.2.2.1⟩)
abbrev wf22 : (List S35) → Prop := (fun l : List S35 => l.length ≤ 9223372036854775807 ∧ ∀ a ∈ l, wf35 a)
theorem op22 : Opens Try.prog 22 e22 wf22 := opens_slice Try.underlying22 sz35 op35
abbrev wf24 : S24 → Prop := (fun x : S24 => wf3 x.f0 ∧ wf22 x.f1 ∧ wf3 x.f2 ∧ wf3 x.f3)
theorem op24 : Opens Try.prog 24 e24 wf24 := (opens_struct Try.underlying24 sz24 (opensF_cons rfl sz3 (by decide) op3 (opensF_cons rfl sz22 (by decide) op22 (opensF_cons rfl sz3 (by decide) op3 (opensF_cons rfl sz3 (by decide) op3 (opensF_nil _)))))).map (fun p => S24.mk p.1 p.2.1 p.2.2.1 p.2.2.2.1) (fun _ => rfl) (fun _ h => ⟨h.1, h.2.1, h.2.2.1, h.2.2.2.1⟩)
abbrev wf25 : (List Bool) → Prop := (fun l : List Bool => l.length ≤ 9223372036854775807 ∧ ∀ a ∈ l, wf4 a)
theorem op25 : Opens Try.prog 25 e25 wf25 := opens_slice Try.underlying25 sz4 op4
abbrev wf9 : ByteArray → Prop := (fun s : ByteArray => s.size ≤ 9223372036854775807)
theorem op9 : Opens Try.prog 9 eStr wf9 := opens_string Try.underlying9
abbrev wf42 : (List S24) → Prop := (fun l : List S24 => l.length ≤ 9223372036854775807 ∧ ∀ a ∈ l, wf24 a)
theorem op42 : Opens Try.prog 42 e42 wf42 := opens_slice Try.underlying42 sz24 op24
abbrev wf5 : Int → Prop := (fun n : Int => (Lit.int .u8 n).wf = true)
theorem op5 : Opens Try.prog 5 eU8 wf5 := opens_int Try.underlying5
abbrev wf47 : (Vector Int 256) → Prop := (fun l : Vector Int 256 => ∀ a ∈ l.toList, wf5 a)
theorem op47 : Opens Try.prog 47 e47 wf47 := opens_array Try.underlying47 sz5 sz47 op5
abbrev wf43 : (List Int) → Prop := (fun l : List Int => l.length ≤ 9223372036854775807 ∧ ∀ a ∈ l, wf3 a)
theorem op43 : Opens Try.prog 43 e43 wf43 := opens_slice Try.underlying43 sz3 op3
abbrev wf48 : (List (List Int)) → Prop := (fun l : List (List Int) => l.length ≤ 9223372036854775807 ∧ ∀ a ∈ l, wf43 a)
theorem op48 : Opens Try.prog 48 e48 wf48 := opens_slice Try.underlying48 sz43 op43
abbrev wf50 : S50 → Prop := (fun x : S50 => wf47 x.f0 ∧ wf48 x.f1 ∧ wf43 x.f2)
theorem op50 : Opens Try.prog 50 e50 wf50 := (opens_struct Try.underlying50 sz50 (opensF_cons rfl sz47 (by decide) op47 (opensF_cons rfl sz48 (by decide) op48 (opensF_cons rfl sz43 (by decide) op43 (opensF_nil _))))).map (fun p => S50.mk p.1 p.2.1 p.2.2.1) (fun _ => rfl) (fun _ h => ⟨h.1, h.2.1, h.2.2.1⟩)
abbrev wf51 : (Vector Int 2) → Prop := (fun l : Vector Int 2 => ∀ a ∈ l.toList, wf5 a)
theorem op51 : Opens Try.prog 51 e51 wf51 := opens_array Try.underlying51 sz5 sz51 op5
abbrev wf82 : S82 → Prop := (fun x : S82 => wf3 x.f0 ∧ wf33 x.f1)
theorem op82 : Opens Try.prog 82 e82 wf82 := (opens_struct Try.underlying82 sz82 (opensF_cons rfl sz3 (by decide) op3 (opensF_cons rfl sz33 (by decide) op33 (opensF_nil _)))).map (fun p => S82.mk p.1 p.2.1) (fun _ => rfl) (fun _ h => ⟨h.1, h.2.1⟩)
abbrev wf58 : (List S82) → Prop := (fun l : List S82 => l.length ≤ 9223372036854775807 ∧ ∀ a ∈ l, wf82 a)
theorem op58 : Opens Try.prog 58 e58 wf58 := opens_slice Try.underlying58 sz82 op82
abbrev wf59 : (Vector ByteArray 2) → Prop := (fun l : Vector ByteArray 2 => ∀ a ∈ l.toList, wf9 a)
theorem op59 : Opens Try.prog 59 e59 wf59 := opens_array Try.underlying59 sz9 sz59 op9
abbrev wf60 : Int → Prop := (fun n : Int => (Lit.int .u16 n).wf = true)
theorem op60 : Opens Try.prog 60 eU16 wf60 := opens_int Try.underlying60
end Go.Avl.T3
/- Ported: texts between quotes. -/
namespace Go.Avl.T3
open Go Go.RowKit Go.Proofs Go.Avl
set_option linter.all false
set_option maxRecDepth 10000

def U (a : Vector Int 4) : Prop := ∀ j : Nat, j < 4 → 0 ≤ vget a (j : Int) ∧ vget a (j : Int) < 18446744073709551616
def wd (a : Vector Int 4) (j : Nat) : Nat := (vget a (j : Int)).toNat
/-- Is a byte in a set? -/
def tb (a : Vector Int 4) (b : Nat) : Bool := (wd a (b / 64)).testBit (b % 64)
theorem wd_eq {a : Vector Int 4} (h : U a) (j : Nat) (hj : j < 4) : vget a (j : Int) = (wd a j : Int) ∧ wd a j < 18446744073709551616 := by
  have := h j hj
  unfold wd; omega
theorem vget_vset (v : Vector Int 4) (i j : Nat) (x : Int) (hi : i < 4) (hj : j < 4) : vget (vset v (i : Int) x) (j : Int) = if j = i then x else vget v (j : Int) := by
  unfold vget vset
  rw [Int.toNat_natCast, Int.toNat_natCast, Vector.toList_setIfInBounds, List.getD, List.getD, List.getElem?_set]
  by_cases e : i = j
  · subst e; rw [if_pos rfl, if_pos rfl, if_pos (by simpa using hi)]; rfl
  · rw [if_neg e, if_neg (fun h => e h.symm)]
theorem vext {a c : Vector Int 4} (h : ∀ j : Nat, j < 4 → vget a (j : Int) = vget c (j : Int)) : a = c := by
  apply Vector.toList_inj.1
  apply List.ext_getElem
  · simp
  · intro j h1 h2
    have hj : j < 4 := by simpa using h1
    have := h j hj
    unfold vget at this
    rw [Int.toNat_natCast, List.getD, List.getD, List.getElem?_eq_getElem h1, List.getElem?_eq_getElem h2] at this
    simpa using this
theorem ext_tb {a c : Vector Int 4} (ha : U a) (hc : U c) (h : ∀ b, b < 256 → tb a b = tb c b) : a = c := by
  apply vext
  intro j hj
  obtain ⟨e1, l1⟩ := wd_eq ha j hj
  obtain ⟨e2, l2⟩ := wd_eq hc j hj
  rw [e1, e2]
  congr 1
  apply Nat.eq_of_testBit_eq
  intro i
  by_cases hi : i < 64
  · have := h (64 * j + i) (by omega)
    unfold tb at this
    rwa [show (64 * j + i) / 64 = j by omega, show (64 * j + i) % 64 = i by omega] at this
  · have hp : 18446744073709551616 ≤ 2 ^ i := Nat.le_trans (by decide : 18446744073709551616 ≤ 2 ^ 64) (Nat.pow_le_pow_right (by omega) (by omega))
    rw [Nat.testBit_lt_two_pow (by omega), Nat.testBit_lt_two_pow (by omega)]
theorem U_zero : U (Vector.replicate 4 (0 : Int)) := by
  intro j hj
  have : vget (Vector.replicate 4 (0 : Int)) (j : Int) = 0 := by
    have : j = 0 ∨ j = 1 ∨ j = 2 ∨ j = 3 := by omega
    rcases this with rfl | rfl | rfl | rfl <;> rfl
  rw [this]; omega
theorem tb_zero (b : Nat) (hb : b < 256) : tb (Vector.replicate 4 (0 : Int)) b = false := by
  have hj : b / 64 < 4 := by omega
  have : vget (Vector.replicate 4 (0 : Int)) ((b / 64 : Nat) : Int) = 0 := by
    generalize b / 64 = j at hj
    have : j = 0 ∨ j = 1 ∨ j = 2 ∨ j = 3 := by omega
    rcases this with rfl | rfl | rfl | rfl <;> rfl
  unfold tb wd
  rw [this]; simp
theorem U_of {a : Vector Int 4} (h : wf33 a) : U a := by
  intro j hj
  have h1 : j < a.toList.length := by simpa using hj
  have h2 := h a.toList[j] (List.getElem_mem h1)
  have e : vget a (j : Int) = a.toList[j] := by
    unfold vget
    rw [Int.toNat_natCast, List.getD, List.getElem?_eq_getElem h1]; rfl
  rw [e]
  have h2' : (Lit.int .u64 a.toList[j]).wf = true := h2
  have : 0 ≤ a.toList[j] ∧ a.toList[j] ≤ 18446744073709551615 := by
    generalize a.toList[j] = z at h2'
    simpa [Lit.wf, show IntKind.u64.min = 0 from rfl, show IntKind.u64.max = 18446744073709551615 from rfl] using h2'
  omega
/-- One bit set in a word. -/
theorem or_bit {w : Nat} (hw : w < 18446744073709551616) {i : Nat} (hi : i < 64) : bits .or .u64 (w : Int) (IntKind.u64.wrap ((1 : Int) * 2 ^ (min i IntKind.u64.bits))) = ((w ||| 2 ^ i : Nat) : Int) ∧ w ||| 2 ^ i < 18446744073709551616 := by
  have hp : (2 : Nat) ^ i < 18446744073709551616 := Nat.lt_of_lt_of_le (Nat.pow_lt_pow_right (by omega) hi) (by decide : 2 ^ 64 ≤ 18446744073709551616)
  have e : IntKind.u64.wrap ((1 : Int) * 2 ^ (min i IntKind.u64.bits)) = ((2 ^ i : Nat) : Int) := by
    rw [show min i IntKind.u64.bits = i by show min i 64 = i; omega]
    have := u64_eq (1 * 2 ^ i)
    unfold u64 at this
    rw [this]
    have e3 : ((1 : Int) * 2 ^ i) = ((2 ^ i : Nat) : Int) := by simp
    rw [e3]
    generalize 2 ^ i = q at hp ⊢
    omega
  rw [e, bits_or_u64_nat w (2 ^ i) hw hp]
  exact ⟨rfl, Nat.or_lt_two_pow (n := 64) hw hp⟩
/-- A byte put into a set. -/
theorem put_bit {a : Vector Int 4} (h : U a) {b : Nat} (hb : b < 256) : ∀ c, c = vset a ((b / 64 : Nat) : Int) (bits .or .u64 (vget a ((b / 64 : Nat) : Int)) (IntKind.u64.wrap ((1 : Int) * 2 ^ (min (b % 64) IntKind.u64.bits)))) → U c ∧ ∀ x, x < 256 → tb c x = (tb a x || decide (x = b)) := by
  rintro c rfl
  have hj : b / 64 < 4 := by omega
  obtain ⟨e, l⟩ := wd_eq h (b / 64) hj
  obtain ⟨o1, o2⟩ := or_bit l (i := b % 64) (by omega)
  rw [e, o1]
  constructor
  · intro j hj'
    rw [vget_vset _ _ _ _ hj hj']
    split
    · omega
    · exact h j hj'
  · intro x hx
    unfold tb wd
    rw [vget_vset _ _ _ _ hj (by omega)]
    by_cases q : x / 64 = b / 64
    · rw [if_pos q, Int.toNat_natCast, Nat.testBit_or, Nat.testBit_two_pow, q]
      congr 1
      rw [decide_eq_decide]; omega
    · rw [if_neg q]
      have : decide (x = b) = false := decide_eq_false (fun e => q (by rw [e]))
      rw [this, Bool.or_false]
theorem shr_eq (x k : Nat) (hk : k ≤ 64) : Int.fdiv (x : Int) (2 ^ (min (k : Int).toNat IntKind.u64.bits)) = ((x / 2 ^ k : Nat) : Int) := by
  rw [Int.toNat_natCast, show min k IntKind.u64.bits = k by show min k 64 = k; omega, Int.fdiv_eq_ediv_of_nonneg _ (by exact_mod_cast Nat.zero_le _)]
  norm_cast
theorem ix_i64 (i : Nat) (hi : i < 100000) : IntKind.i64.wrap ((i : Int).tdiv 64) = ((i / 64 : Nat) : Int) := by
  have h1 : (i : Int).tdiv 64 = ((i / 64 : Nat) : Int) := by rw [Int.tdiv_eq_ediv_of_nonneg (by omega)]; omega
  rw [h1]; have := w64_id (n := ((i / 64 : Nat) : Int)) (by omega) (by omega); exact this
theorem ix_u64 (i : Nat) (hi : i < 100000) : u64 ((i : Int).tmod 64) = ((i % 64 : Nat) : Int) := by
  have h1 : (i : Int).tmod 64 = ((i % 64 : Nat) : Int) := by rw [Int.tmod_eq_emod_of_nonneg (by omega)]; omega
  rw [h1, u64_eq]; omega
theorem tmod64 (i : Nat) : (i : Int).tmod 64 = ((i % 64 : Nat) : Int) := by rw [Int.tmod_eq_emod_of_nonneg (by omega)]; omega
theorem ix_u8 (i : Nat) (hi : i < 256) : IntKind.u8.wrap ((i : Int).tdiv 64) = ((i / 64 : Nat) : Int) := by
  have h1 : (i : Int).tdiv 64 = ((i / 64 : Nat) : Int) := by rw [Int.tdiv_eq_ediv_of_nonneg (by omega)]; omega
  rw [h1]; have := w8_id (n := ((i / 64 : Nat) : Int)) (by omega) (by omega); exact this
theorem rhas_l (x : Nat) (hx : x < 256) : ∀ (m i fuel : Nat) (w : Nat), i + m = x % 64 → m < fuel → w < 18446744073709551616 →
    bosketref02_Has_l1 2000 (x : Int) fuel (w : Int) (i : Int) = some (w.testBit m)
  | 0, i, f + 1, w, h, _, hw => by
    rw [bosketref02_Has_l1.eq_2, tmod64, if_neg (by omega), bosketref02_Has_c0, Nat.testBit_zero]
    congr 1
    rw [decide_eq_decide, Int.tmod_eq_emod_of_nonneg (by omega)]; omega
  | m + 1, i, f + 1, w, h, hf, hw => by
    have e : IntKind.u64.wrap ((w : Int).tdiv 2) = ((w / 2 : Nat) : Int) := by
      rw [Int.tdiv_eq_ediv_of_nonneg (by omega)]
      have := u64_eq ((w : Int) / 2)
      unfold u64 at this
      rw [this]; omega
    rw [bosketref02_Has_l1.eq_2, tmod64, if_pos (by omega), e, w64_id (by omega) (by omega)]
    have := rhas_l x hx m (i + 1) f (w / 2) (by omega) (by omega) (by omega)
    rw [Nat.testBit_succ]
    exact_mod_cast this
theorem rhas_eq {a : Vector Int 4} (ha : U a) {x : Nat} (hx : x < 256) : bosketref02_Has 2000 a (x : Int) = some (tb a x) := by
  obtain ⟨e, l⟩ := wd_eq ha (x / 64) (by omega)
  unfold bosketref02_Has
  rw [ix_i64 x (by omega), if_pos ⟨by omega, by omega⟩, e]
  have := rhas_l x hx (x % 64) 0 2000 (wd a (x / 64)) (by omega) (by omega) l
  exact this
theorem has_eq {a : Vector Int 4} (ha : U a) {x : Nat} (hx : x < 256) : byteset_Has 2000 a (x : Int) = some (tb a x) := by
  obtain ⟨e, l⟩ := wd_eq ha (x / 64) (by omega)
  unfold byteset_Has
  rw [ix_u8 x hx, tmod64, if_pos ⟨by omega, by omega⟩, if_pos (by omega), e, shr_eq _ (x % 64) (by omega)]
  have hb := bits_and_u64_nat (wd a (x / 64) / 2 ^ (x % 64)) 1 (Nat.lt_of_le_of_lt (Nat.div_le_self _ _) l) (by omega)
  have hb' : bits .and .u64 ((wd a (x / 64) / 2 ^ (x % 64) : Nat) : Int) 1 = _ := hb
  rw [hb']
  unfold tb
  congr 1
  rw [Nat.and_one_is_mod]
  have h2 : (wd a (x / 64)).testBit (x % 64) = (wd a (x / 64) / 2 ^ (x % 64)).testBit 0 := by
    rw [Nat.testBit_div_two_pow, Nat.zero_add]
  rw [h2, Nat.testBit_zero, decide_eq_decide]
  omega
end Go.Avl.T3
/- Machines that may be in several states: what both answer, as plain lists. -/
namespace Go.Avl.T3
open Go Go.RowKit Go.Proofs Go.Avl
set_option linter.all false
set_option maxRecDepth 10000

theorem lget_lt {α : Type} [Inhabited α] (l : List α) (i : Nat) (h : i < l.length) : lget l (i : Int) = l[i] := by simp [lget, List.getD, List.getElem?_eq_getElem h]
theorem lset_len {α : Type} (l : List α) (i : Int) (x : α) : (lset l i x).length = l.length := by simp [lset]
def NN (n : S24) : Nat := n.f0.toNat
/-- May an edge be? -/
def edB (n : S24) (e : S35) : Bool := decide (0 ≤ e.f0 ∧ e.f0 < n.f0 ∧ 0 ≤ e.f1 ∧ e.f1 < n.f0)
def rt0 (n : S24) : Bool := decide (0 ≤ n.f2 ∧ n.f2 < n.f0 ∧ 0 ≤ n.f3 ∧ n.f3 < n.f0)
def rtB (n : S24) : Bool := rt0 n && n.f1.all (edB n)
theorem rright_l (n : S24) (hl : n.f1.length ≤ 1000) : ∀ (d i m : Nat) (b : Bool), i + d = n.f1.length → d < m → bosketref06_Right_l1 2000 n m b (i : Int) = some (b && (n.f1.drop i).all (edB n))
  | 0, i, m + 1, b, hi, _ => by
    rw [bosketref06_Right_l1.eq_2, if_neg (by omega), bosketref06_Right_c0, List.drop_of_length_le (by omega)]; simp
  | d + 1, i, m + 1, b, hi, hm => by
    have hi' : i < n.f1.length := by omega
    have g : 0 ≤ (i : Int) ∧ (i : Int) < (n.f1.length : Int) := ⟨by omega, by omega⟩
    have ih := fun b => rright_l n hl d (i + 1) m b (by omega) (by omega)
    rw [bosketref06_Right_l1.eq_2, if_pos g.2, if_pos g, lget_lt _ i hi', List.drop_eq_getElem_cons hi', w64_id (by omega) (by omega), show (i : Int) + 1 = ((i + 1 : Nat) : Int) by omega]
    have key : (if b = true then if (0 : Int) ≤ n.f1[i].f0 then if n.f1[i].f0 < n.f0 then if (0 : Int) ≤ n.f1[i].f1 then some (decide (n.f1[i].f1 < n.f0)) else some false else some false else some false else some false) = some (b && edB n n.f1[i]) := by
      unfold edB
      cases b with
      | false => simp
      | true =>
        rw [if_pos rfl]
        by_cases a1 : (0 : Int) ≤ n.f1[i].f0
        · rw [if_pos a1]
          by_cases a2 : n.f1[i].f0 < n.f0
          · rw [if_pos a2]
            by_cases a3 : (0 : Int) ≤ n.f1[i].f1
            · rw [if_pos a3]; simp [a1, a2, a3]
            · rw [if_neg a3]; simp [a3]
          · rw [if_neg a2]; simp [a2]
        · rw [if_neg a1]; simp [a1]
    rw [key, Option.bind_some, ih, List.all_cons, Bool.and_assoc]
theorem rright_eq (n : S24) (hl : n.f1.length ≤ 1000) : bosketref06_Right 2000 n = some (rtB n) := by
  unfold bosketref06_Right rtB rt0
  have key : (if (0 : Int) ≤ n.f2 then if n.f2 < n.f0 then if (0 : Int) ≤ n.f3 then some (decide (n.f3 < n.f0)) else some false else some false else some false) = some (decide (0 ≤ n.f2 ∧ n.f2 < n.f0 ∧ 0 ≤ n.f3 ∧ n.f3 < n.f0)) := by
    by_cases a1 : (0 : Int) ≤ n.f2
    · rw [if_pos a1]
      by_cases a2 : n.f2 < n.f0
      · rw [if_pos a2]
        by_cases a3 : (0 : Int) ≤ n.f3
        · rw [if_pos a3]; simp [a1, a2, a3]
        · rw [if_neg a3]; simp [a3]
      · rw [if_neg a2]; simp [a2]
    · rw [if_neg a1]; simp [a1]
  have := rright_l n hl n.f1.length 0 2000 (decide (0 ≤ n.f2 ∧ n.f2 < n.f0 ∧ 0 ≤ n.f3 ∧ n.f3 < n.f0)) (by omega) (by omega)
  rw [key, Option.bind_some]
  simpa using this
theorem right_l (n : S24) (hl : n.f1.length ≤ 1000) : ∀ (d i m : Nat), i + d = n.f1.length → d < m → nfa_Right_l1 2000 n m (i : Int) = some ((n.f1.drop i).all (edB n))
  | 0, i, m + 1, hi, _ => by
    rw [nfa_Right_l1.eq_2, if_neg (by omega), nfa_Right_c0, List.drop_of_length_le (by omega)]; simp
  | d + 1, i, m + 1, hi, hm => by
    have hi' : i < n.f1.length := by omega
    have g : 0 ≤ (i : Int) ∧ (i : Int) < (n.f1.length : Int) := ⟨by omega, by omega⟩
    have ih := right_l n hl d (i + 1) m (by omega) (by omega)
    rw [nfa_Right_l1.eq_2, if_pos g.2, if_pos g, lget_lt _ i hi', List.drop_eq_getElem_cons hi', w64_id (by omega) (by omega), show (i : Int) + 1 = ((i + 1 : Nat) : Int) by omega, ih]
    have key : (if n.f1[i].f0 < (0 : Int) then some true else if n.f0 ≤ n.f1[i].f0 then some true else if n.f1[i].f1 < (0 : Int) then some true else some (decide (n.f0 ≤ n.f1[i].f1))) = some (!edB n n.f1[i]) := by
      unfold edB
      by_cases a1 : n.f1[i].f0 < (0 : Int)
      · rw [if_pos a1, decide_eq_false (by omega)]; rfl
      · rw [if_neg a1]
        by_cases a2 : n.f0 ≤ n.f1[i].f0
        · rw [if_pos a2, decide_eq_false (by omega)]; rfl
        · rw [if_neg a2]
          by_cases a3 : n.f1[i].f1 < (0 : Int)
          · rw [if_pos a3, decide_eq_false (by omega)]; rfl
          · rw [if_neg a3]
            by_cases a4 : n.f0 ≤ n.f1[i].f1
            · rw [decide_eq_true a4, decide_eq_false (by omega)]; rfl
            · rw [decide_eq_false a4, decide_eq_true (by omega)]; rfl
    rw [key, Option.bind_some, List.all_cons]
    cases edB n n.f1[i]
    · rw [if_pos (by decide)]; rfl
    · rw [if_neg (by decide), Bool.true_and]
theorem right_eq (n : S24) (hl : n.f1.length ≤ 1000) : nfa_Right 2000 n = some (rtB n) := by
  unfold nfa_Right rtB rt0
  have key : (if n.f2 < (0 : Int) then some true else if n.f0 ≤ n.f2 then some true else if n.f3 < (0 : Int) then some true else some (decide (n.f0 ≤ n.f3))) = some (!decide (0 ≤ n.f2 ∧ n.f2 < n.f0 ∧ 0 ≤ n.f3 ∧ n.f3 < n.f0)) := by
    by_cases a1 : n.f2 < (0 : Int)
    · rw [if_pos a1, decide_eq_false (by omega)]; rfl
    · rw [if_neg a1]
      by_cases a2 : n.f0 ≤ n.f2
      · rw [if_pos a2, decide_eq_false (by omega)]; rfl
      · rw [if_neg a2]
        by_cases a3 : n.f3 < (0 : Int)
        · rw [if_pos a3, decide_eq_false (by omega)]; rfl
        · rw [if_neg a3]
          by_cases a4 : n.f0 ≤ n.f3
          · rw [decide_eq_true a4, decide_eq_false (by omega)]; rfl
          · rw [decide_eq_false a4, decide_eq_true (by omega)]; rfl
  have := right_l n hl n.f1.length 0 2000 (by omega) (by omega)
  rw [key, Option.bind_some]
  cases decide (0 ≤ n.f2 ∧ n.f2 < n.f0 ∧ 0 ≤ n.f3 ∧ n.f3 < n.f0)
  · rfl
  · simpa using this

/-- A machine whose states are all there, not too large. -/
structure Rt (n : S24) : Prop where
  first : 0 ≤ n.f2 ∧ n.f2 < n.f0
  last : 0 ≤ n.f3 ∧ n.f3 < n.f0
  ed : ∀ e ∈ n.f1, 0 ≤ e.f0 ∧ e.f0 < n.f0 ∧ 0 ≤ e.f1 ∧ e.f1 < n.f0
  n1 : n.f0 ≤ 1000
  n2 : n.f1.length ≤ 1000
  u : ∀ e ∈ n.f1, U e.f2
theorem rt_of {n : S24} (h : rtB n = true) (h1 : n.f0 ≤ 1000) (h2 : n.f1.length ≤ 1000) (h3 : ∀ e ∈ n.f1, U e.f2) : Rt n := by
  simp only [rtB, rt0, Bool.and_eq_true, decide_eq_true_eq, List.all_eq_true, edB] at h
  exact ⟨⟨h.1.1, h.1.2.1⟩, h.1.2.2, h.2, h1, h2, h3⟩
theorem Rt.nn {n : S24} (h : Rt n) : ((NN n : Nat) : Int) = n.f0 := by have := h.first; unfold NN; omega
theorem Rt.rt {n : S24} (h : Rt n) : rtB n = true := by
  simp only [rtB, rt0, Bool.and_eq_true, decide_eq_true_eq, List.all_eq_true, edB]
  exact ⟨⟨h.first.1, h.first.2, h.last⟩, h.ed⟩

/-! Free edges. -/
def st1 (s : List Bool × Bool) (e : S35) : List Bool × Bool := if e.f3 = true ∧ lget s.1 e.f0 = true ∧ lget s.1 e.f1 = false then (lset s.1 e.f1 true, true) else s
def pass (l : List S35) (s : List Bool × Bool) : List Bool × Bool := l.foldl st1 s
theorem st1_len (s : List Bool × Bool) (e : S35) : (st1 s e).1.length = s.1.length := by
  unfold st1; split
  · exact lset_len _ _ _
  · rfl
theorem pass_len : ∀ (l : List S35) (s : List Bool × Bool), (pass l s).1.length = s.1.length
  | [], s => rfl
  | e :: l, s => by
    show (pass l (st1 s e)).1.length = _
    rw [pass_len l, st1_len]
theorem guard22 {x : List Bool} {e : S35} (N : Nat) (hx : x.length = N) (he : 0 ≤ e.f0 ∧ e.f0 < (N : Int) ∧ 0 ≤ e.f1 ∧ e.f1 < (N : Int)) :
    (if e.f3 = true then if 0 ≤ e.f0 ∧ e.f0 < (x.length : Int) then if (lget x e.f0) = true then if 0 ≤ e.f1 ∧ e.f1 < (x.length : Int) then some (!(lget x e.f1)) else none else some false else none else some false) = some (decide (e.f3 = true ∧ lget x e.f0 = true ∧ lget x e.f1 = false)) := by
  have g0 : 0 ≤ e.f0 ∧ e.f0 < (x.length : Int) := ⟨he.1, by omega⟩
  have g1 : 0 ≤ e.f1 ∧ e.f1 < (x.length : Int) := ⟨he.2.2.1, by omega⟩
  rw [if_pos g0, if_pos g1]
  cases e.f3 <;> cases lget x e.f0 <;> cases lget x e.f1 <;> simp
theorem close_l2 {n : S24} (h : Rt n) (rec9 : List Bool → Bool → Option (List Bool)) : ∀ (d i m : Nat) (x : List Bool) (b : Bool), i + d = n.f1.length → d < m → x.length = NN n →
    nfa_Close_l2 2000 rec9 n m x b (i : Int) = rec9 (pass (n.f1.drop i) (x, b)).1 (pass (n.f1.drop i) (x, b)).2
  | 0, i, m + 1, x, b, hi, _, hx => by
    rw [nfa_Close_l2.eq_2, if_neg (by omega), List.drop_of_length_le (by omega)]; rfl
  | d + 1, i, m + 1, x, b, hi, hm, hx => by
    have hi' : i < n.f1.length := by omega
    have g : 0 ≤ (i : Int) ∧ (i : Int) < (n.f1.length : Int) := ⟨by omega, by omega⟩
    have he := h.ed n.f1[i] (List.getElem_mem hi')
    have hN := h.n2
    have hf := h.first
    have hnn := h.nn
    rw [nfa_Close_l2.eq_2, if_pos g.2, if_pos g, lget_lt _ i hi', List.drop_eq_getElem_cons hi', guard22 (NN n) hx ⟨he.1, by have := he.2.1; omega, he.2.2.1, by have := he.2.2.2; omega⟩, Option.bind_some]
    show _ = rec9 (pass (n.f1.drop (i + 1)) (st1 (x, b) n.f1[i])).1 (pass (n.f1.drop (i + 1)) (st1 (x, b) n.f1[i])).2
    unfold st1
    by_cases q : n.f1[i].f3 = true ∧ lget x n.f1[i].f0 = true ∧ lget x n.f1[i].f1 = false
    · rw [if_pos (decide_eq_true q), if_pos q, if_pos ⟨he.2.2.1, by have := he.2.2.2; omega⟩, nfa_Close_c1, w64_id (by omega) (by omega)]
      have ih := close_l2 h rec9 d (i + 1) m (lset x n.f1[i].f1 true) true (by omega) (by omega) (by rw [lset_len, hx])
      exact_mod_cast ih
    · rw [if_neg (by simpa using q), if_neg q, nfa_Close_c1, w64_id (by omega) (by omega)]
      have ih := close_l2 h rec9 d (i + 1) m x b (by omega) (by omega) hx
      exact_mod_cast ih
theorem rclose_l4 {n : S24} (h : Rt n) (rec10 : List Bool → Int → Option (List Bool)) (x9 : Int) : ∀ (d i m : Nat) (x : List Bool) (b : Bool), i + d = n.f1.length → d < m → x.length = NN n →
    bosketref06_Close_l4 2000 rec10 n x9 m x b (i : Int) = bosketref06_Close_c2 2000 rec10 x9 (pass (n.f1.drop i) (x, b)).1 (pass (n.f1.drop i) (x, b)).2
  | 0, i, m + 1, x, b, hi, _, hx => by
    rw [bosketref06_Close_l4.eq_2, if_neg (by omega), List.drop_of_length_le (by omega)]; rfl
  | d + 1, i, m + 1, x, b, hi, hm, hx => by
    have hi' : i < n.f1.length := by omega
    have g : 0 ≤ (i : Int) ∧ (i : Int) < (n.f1.length : Int) := ⟨by omega, by omega⟩
    have he := h.ed n.f1[i] (List.getElem_mem hi')
    have hN := h.n2
    have hf := h.first
    have hnn := h.nn
    rw [bosketref06_Close_l4.eq_2, if_pos g.2, if_pos g, lget_lt _ i hi', List.drop_eq_getElem_cons hi', guard22 (NN n) hx ⟨he.1, by have := he.2.1; omega, he.2.2.1, by have := he.2.2.2; omega⟩, Option.bind_some]
    show _ = bosketref06_Close_c2 2000 rec10 x9 (pass (n.f1.drop (i + 1)) (st1 (x, b) n.f1[i])).1 (pass (n.f1.drop (i + 1)) (st1 (x, b) n.f1[i])).2
    unfold st1
    by_cases q : n.f1[i].f3 = true ∧ lget x n.f1[i].f0 = true ∧ lget x n.f1[i].f1 = false
    · rw [if_pos (decide_eq_true q), if_pos q, if_pos ⟨he.2.2.1, by have := he.2.2.2; omega⟩, bosketref06_Close_c3, w64_id (by omega) (by omega)]
      have ih := rclose_l4 h rec10 x9 d (i + 1) m (lset x n.f1[i].f1 true) true (by omega) (by omega) (by rw [lset_len, hx])
      exact_mod_cast ih
    · rw [if_neg (by simpa using q), if_neg q, bosketref06_Close_c3, w64_id (by omega) (by omega)]
      have ih := rclose_l4 h rec10 x9 d (i + 1) m x b (by omega) (by omega) hx
      exact_mod_cast ih
/-- How many states. -/
def cnt (x : List Bool) : Nat := x.count true
theorem cnt_le (x : List Bool) : cnt x ≤ x.length := List.count_le_length
theorem cnt_set : ∀ (x : List Bool) (i : Nat), i < x.length → x[i]? = some false → cnt (x.set i true) = cnt x + 1
  | b :: x, 0, _, h => by simp at h; subst h; simp [cnt]
  | b :: x, i + 1, hi, h => by
    have := cnt_set x i (by simpa using hi) (by simpa using h)
    simp only [cnt, List.set_cons_succ, List.count_cons] at this ⊢
    omega
theorem st1_cnt (s : List Bool × Bool) (e : S35) (he : 0 ≤ e.f1 ∧ e.f1 < (s.1.length : Int)) : st1 s e = s ∨ ((st1 s e).2 = true ∧ cnt (st1 s e).1 = cnt s.1 + 1) := by
  unfold st1
  split
  · rename_i q
    refine .inr ⟨rfl, ?_⟩
    have hi : e.f1.toNat < s.1.length := by omega
    refine cnt_set s.1 e.f1.toNat hi ?_
    have := q.2.2
    unfold lget at this
    rw [List.getD, List.getElem?_eq_getElem hi] at this
    rw [List.getElem?_eq_getElem hi]; simpa using this
  · exact .inl rfl
theorem pass_cnt (N : Int) : ∀ (l : List S35) (s : List Bool × Bool), (∀ e ∈ l, 0 ≤ e.f1 ∧ e.f1 < N) → (s.1.length : Int) = N → pass l s = s ∨ ((pass l s).2 = true ∧ cnt s.1 < cnt (pass l s).1)
  | [], s, _, _ => .inl rfl
  | e :: l, s, h, hs => by
    have ih := pass_cnt N l (st1 s e) (fun e' h' => h e' (by simp [h'])) (by rw [st1_len]; exact hs)
    show pass l (st1 s e) = s ∨ ((pass l (st1 s e)).2 = true ∧ cnt s.1 < cnt (pass l (st1 s e)).1)
    rcases st1_cnt s e (by rw [hs]; exact h e (by simp)) with q | ⟨q1, q2⟩
    · rw [q] at ih ⊢; exact ih
    · rcases ih with r | ⟨r1, r2⟩
      · rw [r]; exact .inr ⟨q1, by omega⟩
      · exact .inr ⟨r1, by omega⟩
/-- Round after round, as long as some state is new. -/
def cl (l : List S35) : Nat → List Bool → List Bool
  | 0, x => x
  | k + 1, x => if (pass l (x, false)).2 = true then cl l k (pass l (x, false)).1 else (pass l (x, false)).1
theorem cl_len (l : List S35) : ∀ (k : Nat) (x : List Bool), (cl l k x).length = x.length
  | 0, _ => rfl
  | k + 1, x => by
    rw [cl]; split
    · rw [cl_len l k, pass_len]
    · rw [pass_len]
theorem cl_more {n : S24} (h : Rt n) : ∀ (j : Nat) (x : List Bool), x.length = NN n → NN n - cnt x < j → cl n.f1 j x = cl n.f1 (j + 1) x
  | 0, x, _, h => by omega
  | j + 1, x, hx, hj => by
    rw [cl, cl]
    split
    · rename_i q
      have hp := pass_len n.f1 (x, false)
      have hle := cnt_le (pass n.f1 (x, false)).1
      have hf := h.first
      have hnn := h.nn
      rcases pass_cnt n.f0 n.f1 (x, false) (fun e he => ⟨(h.ed e he).2.2.1, (h.ed e he).2.2.2⟩) (by show (x.length : Int) = _; omega) with r | ⟨_, r⟩
      · rw [r] at q; cases q
      · have r' : cnt x < cnt (pass n.f1 (x, false)).1 := r
        have hp' : (pass n.f1 (x, false)).1.length = x.length := hp
        exact cl_more h j _ (hp'.trans hx) (by rw [hp'] at hle; omega)
    · rfl
/-- All that free edges lead to. -/
def CL (n : S24) (x : List Bool) : List Bool := cl n.f1 (NN n + 1) x
theorem CL_len (n : S24) (x : List Bool) : (CL n x).length = x.length := cl_len _ _ _
theorem cl_CL {n : S24} (h : Rt n) {x : List Bool} (hx : x.length = NN n) : ∀ {j : Nat}, NN n - cnt x < j → cl n.f1 j x = CL n x := by
  have up : ∀ (d j : Nat), NN n - cnt x < j → cl n.f1 j x = cl n.f1 (j + d) x := by
    intro d
    induction d with
    | zero => intro j _; rfl
    | succ d ih => intro j hj; rw [ih j hj, cl_more h (j + d) x hx (by omega)]; rfl
  intro j hj
  unfold CL
  rcases Nat.le_total j (NN n + 1) with q | q
  · have := up (NN n + 1 - j) j hj; rwa [show j + (NN n + 1 - j) = NN n + 1 by omega] at this
  · have := up (j - (NN n + 1)) (NN n + 1) (by omega); rw [show NN n + 1 + (j - (NN n + 1)) = j by omega] at this; exact this.symm
theorem pass_zero : ∀ (l : List S35) (x : List Bool) (b : Bool), cnt x = 0 → pass l (x, b) = (x, b)
  | [], _, _, _ => rfl
  | e :: l, x, b, h => by
    have : st1 (x, b) e = (x, b) := by
      unfold st1
      rw [if_neg]
      rintro ⟨_, q, _⟩
      have hm : true ∈ x := by
        simp only [lget, List.getD] at q
        cases hx : x[e.f0.toNat]? with
        | none => rw [hx] at q; cases q
        | some b => rw [hx] at q; simp at q; subst q; exact List.mem_of_getElem? hx
      have := List.count_pos_iff.2 hm
      unfold cnt at h; omega
    show pass l (st1 (x, b) e) = _
    rw [this, pass_zero l x b h]
theorem cl_N {n : S24} (h : Rt n) {x : List Bool} (hx : x.length = NN n) : cl n.f1 (NN n) x = CL n x := by
  by_cases q : cnt x = 0
  · have z : ∀ k, cl n.f1 k x = x := by
      intro k
      cases k with
      | zero => rfl
      | succ k => rw [cl, pass_zero n.f1 x false q, if_neg (fun e => Bool.noConfusion e)]
    unfold CL; rw [z, z]
  · have := h.first
    have hnn := h.nn
    exact cl_CL h hx (by omega)
theorem close_l3 {n : S24} (h : Rt n) : ∀ (m : Nat) (x : List Bool), x.length = NN n → NN n - cnt x + 1 < m → nfa_Close_l3 2000 n m x true = some (cl n.f1 m x)
  | m + 1, x, hx, hm => by
    have h2 := h.n2
    rw [nfa_Close_l3.eq_2, if_pos rfl]
    have e := close_l2 h (nfa_Close_l3 2000 n m) n.f1.length 0 2000 x false (by omega) (by omega) hx
    rw [Int.natCast_zero, List.drop_zero] at e
    rw [e, cl]
    have hp := pass_len n.f1 (x, false)
    have hp' : (pass n.f1 (x, false)).1.length = x.length := hp
    by_cases q : (pass n.f1 (x, false)).2 = true
    · rw [if_pos q, q]
      have hf := h.first
      have hnn := h.nn
      have hle := cnt_le (pass n.f1 (x, false)).1
      rcases pass_cnt n.f0 n.f1 (x, false) (fun e he => ⟨(h.ed e he).2.2.1, (h.ed e he).2.2.2⟩) (by show (x.length : Int) = _; omega) with r | ⟨_, r⟩
      · rw [r] at q; cases q
      · have r' : cnt x < cnt (pass n.f1 (x, false)).1 := r
        exact close_l3 h m _ (hp'.trans hx) (by rw [hp'] at hle; omega)
    · rw [if_neg q]
      cases m with
      | zero => omega
      | succ m => rw [nfa_Close_l3.eq_2, if_neg q, nfa_Close_c0]
/-- The states handed on: so many, those that lack are none. -/
def ini (n : S24) (x : List Bool) : List Bool := lcopy (List.replicate (NN n) false) x
theorem ini_len (n : S24) (x : List Bool) : (ini n x).length = NN n := by unfold ini; rw [lcopy_len, List.length_replicate]
theorem ini_self {n : S24} {x : List Bool} (hx : x.length = NN n) : ini n x = x := by
  unfold ini lcopy
  rw [List.length_replicate, List.take_of_length_le (by omega), List.drop_of_length_le (by simp; omega), List.append_nil]
theorem close_eq {n : S24} (h : Rt n) (x : List Bool) : nfa_Close 2000 n x = some (CL n (ini n x)) := by
  have h1 := h.n1
  have hf := h.first
  have hnn := h.nn
  unfold nfa_Close
  rw [show n.f0.toNat = NN n from rfl]
  rw [if_pos ⟨by omega, by omega, by omega⟩]
  show nfa_Close_l3 2000 n 2000 (ini n x) true = _
  rw [close_l3 h 2000 _ (ini_len n x) (by omega), cl_CL h (ini_len n x) (by omega)]
theorem rclose_l5 {n : S24} (h : Rt n) : ∀ (r i m : Nat) (x : List Bool), x.length = NN n → i + r = NN n → r < m → bosketref06_Close_l5 2000 n m x (i : Int) = some (cl n.f1 r x)
  | 0, i, m + 1, x, hx, hi, hm => by
    have hf := h.first
    have hnn := h.nn
    rw [bosketref06_Close_l5.eq_2, if_neg (by omega), bosketref06_Close_c0]; rfl
  | r + 1, i, m + 1, x, hx, hi, hm => by
    have h2 := h.n2
    have h1 := h.n1
    have hf := h.first
    have hnn := h.nn
    rw [bosketref06_Close_l5.eq_2, if_pos (by omega)]
    have e := rclose_l4 h (bosketref06_Close_l5 2000 n m) (i : Int) n.f1.length 0 2000 x false (by omega) (by omega) hx
    rw [Int.natCast_zero, List.drop_zero] at e
    rw [e, cl, bosketref06_Close_c2]
    have hp : (pass n.f1 (x, false)).1.length = x.length := pass_len n.f1 (x, false)
    by_cases q : (pass n.f1 (x, false)).2 = true
    · rw [if_neg (by simp [q]), if_pos q, bosketref06_Close_c1, w64_id (by omega) (by omega)]
      have ih := rclose_l5 h r (i + 1) m (pass n.f1 (x, false)).1 (by omega) (by omega) (by omega)
      exact_mod_cast ih
    · rw [if_pos (by simpa using q), if_neg q]
theorem rclose_l7 {n : S24} (h : Rt n) (p : List Bool) (hp : p.length ≤ 1000) : ∀ (d i m : Nat), i + d = min (NN n) p.length → d < m →
    bosketref06_Close_l7 2000 n p m (p.take i ++ List.replicate (NN n - i) false) (i : Int) = bosketref06_Close_c6 2000 n (ini n p)
  | 0, i, m + 1, hi, hm => by
    have hf := h.first
    have hnn := h.nn
    rw [bosketref06_Close_l7.eq_2]
    have e : p.take i ++ List.replicate (NN n - i) false = ini n p := by
      unfold ini lcopy
      rw [List.length_replicate, List.drop_replicate]
      by_cases q : p.length ≤ NN n
      · rw [List.take_of_length_le (by omega), List.take_of_length_le (by omega), show NN n - i = NN n - p.length by omega]
      · rw [show i = NN n by omega, Nat.sub_self, show NN n - p.length = 0 by omega]
    by_cases q : (i : Int) < n.f0
    · rw [if_pos q, Option.bind_some, if_neg (by simp; omega), e]
    · rw [if_neg q, Option.bind_some, if_neg (by decide), e]
  | d + 1, i, m + 1, hi, hm => by
    have hf := h.first
    have hnn := h.nn
    have h1 := h.n1
    have hi' : i < p.length := by omega
    have hlen : (p.take i ++ List.replicate (NN n - i) false).length = NN n := by simp; omega
    rw [bosketref06_Close_l7.eq_2, if_pos (by omega), Option.bind_some, if_pos (by simp; omega), if_pos ⟨by omega, by omega⟩, if_pos ⟨by omega, by rw [hlen]; omega⟩, lget_lt p i hi', w64_id (by omega) (by omega)]
    have e : lset (p.take i ++ List.replicate (NN n - i) false) (i : Int) p[i] = p.take (i + 1) ++ List.replicate (NN n - (i + 1)) false := by
      unfold lset
      rw [Int.toNat_natCast, List.set_append_right _ _ (by simp; omega), show (i - (p.take i).length) = 0 by simp; omega, show NN n - i = (NN n - (i + 1)) + 1 by omega, List.replicate_succ, List.set_cons_zero, ← List.take_append_getElem hi', List.append_assoc]; rfl
    rw [e]
    have ih := rclose_l7 h p hp d (i + 1) m (by omega) (by omega)
    exact_mod_cast ih
theorem rclose_eq {n : S24} (h : Rt n) (x : List Bool) (hx : x.length ≤ 1000) : bosketref06_Close 2000 n x = some (CL n (ini n x)) := by
  have h1 := h.n1
  have hf := h.first
  have hnn := h.nn
  unfold bosketref06_Close
  rw [show n.f0.toNat = NN n from rfl]
  rw [if_pos ⟨by omega, by omega, by omega⟩]
  have e := rclose_l7 h x hx (min (NN n) x.length) 0 2000 (by omega) (by omega)
  rw [Int.natCast_zero, List.take_zero, List.nil_append, Nat.sub_zero] at e
  rw [e, bosketref06_Close_c6]
  have e2 := rclose_l5 h (NN n) 0 2000 (ini n x) (ini_len n x) (by omega) (by omega)
  rw [Int.natCast_zero] at e2
  rw [e2, cl_N h (ini_len n x)]
/-! By a byte. -/
def mv1 (x : List Bool) (b : Nat) (o : List Bool) (e : S35) : List Bool := if e.f3 = false ∧ e.f0 < (x.length : Int) ∧ lget x e.f0 = true ∧ tb e.f2 b = true then lset o e.f1 true else o
def MV (n : S24) (x : List Bool) (b : Nat) : List Bool := n.f1.foldl (mv1 x b) (List.replicate (NN n) false)
theorem mv1_len (x : List Bool) (b : Nat) (o : List Bool) (e : S35) : (mv1 x b o e).length = o.length := by
  unfold mv1; split
  · exact lset_len _ _ _
  · rfl
theorem mvf_len (x : List Bool) (b : Nat) : ∀ (l : List S35) (o : List Bool), (l.foldl (mv1 x b) o).length = o.length
  | [], _ => rfl
  | e :: l, o => by rw [List.foldl_cons, mvf_len x b l, mv1_len]
theorem MV_len (n : S24) (x : List Bool) (b : Nat) : (MV n x b).length = NN n := by unfold MV; rw [mvf_len, List.length_replicate]
theorem guard16 {x : List Bool} {e : S35} {t : Option Bool} {b : Nat} (he : 0 ≤ e.f0) (ht : t = some (tb e.f2 b)) :
    (if (!(e.f3)) = true then if e.f0 < (x.length : Int) then if 0 ≤ e.f0 ∧ e.f0 < (x.length : Int) then if (lget x e.f0) = true then t.bind fun t22 => some (t22) else some (false) else none else some (false) else some (false)) = some (decide (e.f3 = false ∧ e.f0 < (x.length : Int) ∧ lget x e.f0 = true ∧ tb e.f2 b = true)) := by
  subst ht
  by_cases q : e.f0 < (x.length : Int)
  · cases e.f3 <;> cases lget x e.f0 <;> simp [q, he]
  · cases e.f3 <;> simp [q]
theorem move_l {n : S24} (h : Rt n) (x : List Bool) {b : Nat} (hb : b < 256) : ∀ (d i m : Nat) (o : List Bool), i + d = n.f1.length → d < m → o.length = NN n →
    nfa_Move_l2 2000 n x (b : Int) m o (i : Int) = some ((n.f1.drop i).foldl (mv1 x b) o)
  | 0, i, m + 1, o, hi, _, ho => by
    rw [nfa_Move_l2.eq_2, if_neg (by omega), List.drop_of_length_le (by omega), nfa_Move_c0]; rfl
  | d + 1, i, m + 1, o, hi, hm, ho => by
    have hi' : i < n.f1.length := by omega
    have g : 0 ≤ (i : Int) ∧ (i : Int) < (n.f1.length : Int) := ⟨by omega, by omega⟩
    have he := h.ed n.f1[i] (List.getElem_mem hi')
    have hN := h.n2
    have hf := h.first
    have hnn := h.nn
    rw [nfa_Move_l2.eq_2, if_pos g.2, if_pos g, lget_lt _ i hi', List.drop_eq_getElem_cons hi', guard16 he.1 (has_eq (h.u _ (List.getElem_mem hi')) hb), Option.bind_some, List.foldl_cons]
    unfold mv1
    by_cases q : n.f1[i].f3 = false ∧ n.f1[i].f0 < (x.length : Int) ∧ lget x n.f1[i].f0 = true ∧ tb n.f1[i].f2 b = true
    · rw [if_pos (decide_eq_true q), if_pos q, if_pos ⟨he.2.2.1, by have := he.2.2.2; omega⟩, nfa_Move_c1, w64_id (by omega) (by omega)]
      have ih := move_l h x hb d (i + 1) m (lset o n.f1[i].f1 true) (by omega) (by omega) (by rw [lset_len, ho])
      unfold mv1 at ih
      exact_mod_cast ih
    · rw [if_neg (by simpa using q), if_neg q, nfa_Move_c1, w64_id (by omega) (by omega)]
      have ih := move_l h x hb d (i + 1) m o (by omega) (by omega) ho
      unfold mv1 at ih
      exact_mod_cast ih
theorem rmove_l {n : S24} (h : Rt n) (x : List Bool) {b : Nat} (hb : b < 256) : ∀ (d i m : Nat) (o : List Bool), i + d = n.f1.length → d < m → o.length = NN n →
    bosketref06_Move_l2 2000 n x (b : Int) m o (i : Int) = some ((n.f1.drop i).foldl (mv1 x b) o)
  | 0, i, m + 1, o, hi, _, ho => by
    rw [bosketref06_Move_l2.eq_2, if_neg (by omega), List.drop_of_length_le (by omega), bosketref06_Move_c0]; rfl
  | d + 1, i, m + 1, o, hi, hm, ho => by
    have hi' : i < n.f1.length := by omega
    have g : 0 ≤ (i : Int) ∧ (i : Int) < (n.f1.length : Int) := ⟨by omega, by omega⟩
    have he := h.ed n.f1[i] (List.getElem_mem hi')
    have hN := h.n2
    have hf := h.first
    have hnn := h.nn
    rw [bosketref06_Move_l2.eq_2, if_pos g.2, if_pos g, lget_lt _ i hi', List.drop_eq_getElem_cons hi', guard16 he.1 (rhas_eq (h.u _ (List.getElem_mem hi')) hb), Option.bind_some, List.foldl_cons]
    unfold mv1
    by_cases q : n.f1[i].f3 = false ∧ n.f1[i].f0 < (x.length : Int) ∧ lget x n.f1[i].f0 = true ∧ tb n.f1[i].f2 b = true
    · rw [if_pos (decide_eq_true q), if_pos q, if_pos ⟨he.2.2.1, by have := he.2.2.2; omega⟩, bosketref06_Move_c1, w64_id (by omega) (by omega)]
      have ih := rmove_l h x hb d (i + 1) m (lset o n.f1[i].f1 true) (by omega) (by omega) (by rw [lset_len, ho])
      unfold mv1 at ih
      exact_mod_cast ih
    · rw [if_neg (by simpa using q), if_neg q, bosketref06_Move_c1, w64_id (by omega) (by omega)]
      have ih := rmove_l h x hb d (i + 1) m o (by omega) (by omega) ho
      unfold mv1 at ih
      exact_mod_cast ih
theorem move_eq {n : S24} (h : Rt n) (x : List Bool) {c : Int} (h0 : 0 ≤ c) (h1 : c ≤ 255) : nfa_Move 2000 n x c = some (MV n x c.toNat) := by
  obtain ⟨b, rfl⟩ := Int.eq_ofNat_of_zero_le h0
  have hn1 := h.n1
  have hn2 := h.n2
  have hf := h.first
  have hnn := h.nn
  unfold nfa_Move
  rw [show n.f0.toNat = NN n from rfl]
  rw [if_pos ⟨by omega, by omega, by omega⟩]
  have := move_l h x (b := b) (by omega) n.f1.length 0 2000 (List.replicate (NN n) false) (by omega) (by omega) (by simp)
  rw [Int.natCast_zero, List.drop_zero] at this
  exact this
theorem rmove_eq {n : S24} (h : Rt n) (x : List Bool) {c : Int} (h0 : 0 ≤ c) (h1 : c ≤ 255) : bosketref06_Move 2000 n x c = some (MV n x c.toNat) := by
  obtain ⟨b, rfl⟩ := Int.eq_ofNat_of_zero_le h0
  have hn1 := h.n1
  have hn2 := h.n2
  have hf := h.first
  have hnn := h.nn
  unfold bosketref06_Move
  rw [show n.f0.toNat = NN n from rfl]
  rw [if_pos ⟨by omega, by omega, by omega⟩]
  have := rmove_l h x (b := b) (by omega) n.f1.length 0 2000 (List.replicate (NN n) false) (by omega) (by omega) (by simp)
  rw [Int.natCast_zero, List.drop_zero] at this
  exact this
/-! By a text. -/
def RN (n : S24) (s : ByteArray) : Nat → List Bool
  | 0 => CL n (lset (List.replicate (NN n) false) n.f2 true)
  | i + 1 => CL n (MV n (RN n s i) (byteAt s i).toNat)
theorem RN_len (n : S24) (s : ByteArray) : ∀ i, (RN n s i).length = NN n
  | 0 => by rw [RN, CL_len, lset_len, List.length_replicate]
  | i + 1 => by rw [RN, CL_len, MV_len]
theorem has_l {n : S24} (h : Rt n) (s : ByteArray) (hs : s.size ≤ 1000) : ∀ (d i m : Nat), i + d = s.size → d < m → nfa_Has_l1 2000 n s m (RN n s i) (i : Int) = some (lget (RN n s s.size) n.f3)
  | 0, i, m + 1, hi, _ => by
    have hl := h.last
    have hnn := h.nn
    have hz := RN_len n s i
    rw [nfa_Has_l1.eq_2, if_neg (by omega), nfa_Has_c0, if_pos ⟨hl.1, by rw [hz]; omega⟩, show i = s.size by omega]
  | d + 1, i, m + 1, hi, hm => by
    have hb := byteAt_u8 s i
    rw [nfa_Has_l1.eq_2, if_pos (by omega), if_pos ⟨by omega, by omega⟩, move_eq h _ hb.1 hb.2, Option.bind_some, close_eq h, Option.bind_some, ini_self (MV_len _ _ _), w64_id (by omega) (by omega)]
    have ih := has_l h s hs d (i + 1) m (by omega) (by omega)
    rw [RN] at ih
    exact_mod_cast ih
theorem nhas_eq {n : S24} (h : Rt n) (s : ByteArray) (hs : s.size ≤ 1000) : nfa_Has 2000 n s = some (lget (RN n s s.size) n.f3) := by
  have hn1 := h.n1
  have hf := h.first
  have hnn := h.nn
  unfold nfa_Has
  rw [show n.f0.toNat = NN n from rfl]
  rw [right_eq n h.n2, h.rt, Option.bind_some, if_neg (by decide), if_pos ⟨by omega, by omega, by omega⟩, if_pos ⟨hf.1, by simp; omega⟩, close_eq h, Option.bind_some, ini_self (by rw [lset_len, List.length_replicate])]
  exact_mod_cast has_l h s hs s.size 0 2000 (by omega) (by omega)
theorem nhas_not {n : S24} (h : rtB n = false) (h2 : n.f1.length ≤ 1000) (s : ByteArray) : nfa_Has 2000 n s = some false := by
  unfold nfa_Has
  rw [right_eq n h2, h]; rfl
theorem run_l {n : S24} (h : Rt n) (s : ByteArray) (hs : s.size ≤ 1000) : ∀ (d i m : Nat), i + d = s.size → d < m → bosketref06_Run_l1 2000 n s m (RN n s i) (i : Int) = some (RN n s s.size)
  | 0, i, m + 1, hi, _ => by
    rw [bosketref06_Run_l1.eq_2, if_neg (by omega), bosketref06_Run_c0, show i = s.size by omega]
  | d + 1, i, m + 1, hi, hm => by
    have hb := byteAt_u8 s i
    have hn := h.n1
    have hf := h.first
    have hnn := h.nn
    rw [bosketref06_Run_l1.eq_2, if_pos (by omega), if_pos ⟨by omega, by omega⟩, w64_id (n := byteAt s i) (by omega) (by omega), rmove_eq h _ hb.1 hb.2, Option.bind_some, rclose_eq h _ (by rw [MV_len]; omega), Option.bind_some, ini_self (MV_len _ _ _), w64_id (by omega) (by omega)]
    have ih := run_l h s hs d (i + 1) m (by omega) (by omega)
    rw [RN] at ih
    exact_mod_cast ih
theorem nrun_eq {n : S24} (h : Rt n) (s : ByteArray) (hs : s.size ≤ 1000) : bosketref06_Run 2000 n s = some (RN n s s.size) := by
  have hn1 := h.n1
  have hf := h.first
  have hnn := h.nn
  unfold bosketref06_Run
  rw [show n.f0.toNat = NN n from rfl]
  rw [if_pos ⟨by omega, by omega, by omega⟩, if_pos ⟨hf.1, by simp; omega⟩, rclose_eq h _ (by rw [lset_len, List.length_replicate]; omega), Option.bind_some, ini_self (by rw [lset_len, List.length_replicate])]
  exact_mod_cast run_l h s hs s.size 0 2000 (by omega) (by omega)
theorem same_l (l : List Bool) (hl : l.length ≤ 1000) : ∀ (d i m : Nat), i + d = l.length → d < m → bosketref06_Same_l1 2000 l l m (i : Int) = some true
  | 0, i, m + 1, hi, _ => by rw [bosketref06_Same_l1.eq_2, if_neg (by omega)]; rfl
  | d + 1, i, m + 1, hi, hm => by
    have ih := same_l l hl d (i + 1) m (by omega) (by omega)
    rw [bosketref06_Same_l1.eq_2, if_pos (by omega), if_pos ⟨by omega, by omega⟩, if_pos ⟨by omega, by omega⟩, if_neg (by simp), w64_id (by omega) (by omega)]
    exact_mod_cast ih
theorem same_eq (l : List Bool) (hl : l.length ≤ 1000) : bosketref06_Same 2000 l l = some true := by
  unfold bosketref06_Same
  rw [if_neg (by simp)]
  exact_mod_cast same_l l hl l.length 0 2000 (by omega) (by omega)
end Go.Avl.T3
/- Machines that may be in several states: which states they reach. -/
namespace Go.Avl.T3
open Go Go.RowKit Go.Proofs Go.Avl
set_option linter.all false
set_option maxRecDepth 10000

theorem lget_lset (l : List Bool) (i q : Int) (h0 : 0 ≤ i) (h1 : i < (l.length : Int)) (hq : 0 ≤ q) : lget (lset l i true) q = (decide (q = i) || lget l q) := by
  unfold lget lset
  rw [List.getD, List.getD, List.getElem?_set]
  by_cases e : i.toNat = q.toNat
  · rw [if_pos e, if_pos (by omega), decide_eq_true (by omega)]; rfl
  · rw [if_neg e, decide_eq_false (by omega)]; rfl
theorem lget_rep (N : Nat) (q : Int) : lget (List.replicate N false) q = false := by
  unfold lget
  rw [List.getD, List.getElem?_replicate]
  split <;> rfl
theorem lget_out {l : List Bool} {q : Int} (h : (l.length : Int) ≤ q) : lget l q = false := by
  unfold lget
  rw [List.getD, List.getElem?_eq_none (by omega)]; rfl
/-- By free edges. -/
inductive FR (l : List S35) : Int → Int → Prop
  | refl (p : Int) : FR l p p
  | tail {p : Int} {e : S35} : FR l p e.f0 → e ∈ l → e.f3 = true → FR l p e.f1
theorem FR.trans {l : List S35} {p q r : Int} (h : FR l p q) (k : FR l q r) : FR l p r := by
  induction k with
  | refl => exact h
  | tail _ he hf ih => exact .tail ih he hf
/-- All of a row is reached from another one. -/
def Snd (L : List S35) (x o : List Bool) : Prop := ∀ q : Int, 0 ≤ q → lget o q = true → ∃ p, 0 ≤ p ∧ lget x p = true ∧ FR L p q
theorem st1_snd {L : List S35} {x : List Bool} {s : List Bool × Bool} {e : S35} (he : e ∈ L) (h0 : 0 ≤ e.f0) (h1 : 0 ≤ e.f1 ∧ e.f1 < (s.1.length : Int)) (h : Snd L x s.1) : Snd L x (st1 s e).1 := by
  unfold st1
  split
  · rename_i c
    intro q hq hg
    simp only [] at hg
    rw [lget_lset s.1 e.f1 q h1.1 h1.2 hq, Bool.or_eq_true, decide_eq_true_eq] at hg
    rcases hg with rfl | hg
    · obtain ⟨p, p1, p2, p3⟩ := h e.f0 h0 c.2.1
      exact ⟨p, p1, p2, .tail p3 he c.1⟩
    · exact h q hq hg
  · exact h
theorem pass_snd {L : List S35} {x : List Bool} {N : Int} : ∀ (l : List S35) (s : List Bool × Bool), (∀ e ∈ l, e ∈ L ∧ 0 ≤ e.f0 ∧ 0 ≤ e.f1 ∧ e.f1 < N) → (s.1.length : Int) = N → Snd L x s.1 → Snd L x (pass l s).1
  | [], s, _, _, h => h
  | e :: l, s, hl, hs, h => by
    have he := hl e (by simp)
    show Snd L x (pass l (st1 s e)).1
    exact pass_snd l _ (fun e' h' => hl e' (by simp [h'])) (by rw [st1_len]; exact hs) (st1_snd he.1 he.2.1 ⟨he.2.2.1, by rw [hs]; exact he.2.2.2⟩ h)
theorem st1_mono {s : List Bool × Bool} {e : S35} (h1 : 0 ≤ e.f1 ∧ e.f1 < (s.1.length : Int)) {q : Int} (hq : 0 ≤ q) (h : lget s.1 q = true) : lget (st1 s e).1 q = true := by
  unfold st1
  split
  · show lget (lset s.1 e.f1 true) q = true
    rw [lget_lset s.1 e.f1 q h1.1 h1.2 hq, h, Bool.or_true]
  · exact h
theorem pass_mono {N : Int} {q : Int} (hq : 0 ≤ q) : ∀ (l : List S35) (s : List Bool × Bool), (∀ e ∈ l, 0 ≤ e.f1 ∧ e.f1 < N) → (s.1.length : Int) = N → lget s.1 q = true → lget (pass l s).1 q = true
  | [], s, _, _, h => h
  | e :: l, s, hl, hs, h => by
    show lget (pass l (st1 s e)).1 q = true
    exact pass_mono hq l _ (fun e' h' => hl e' (by simp [h'])) (by rw [st1_len]; exact hs) (st1_mono (by rw [hs]; exact hl e (by simp)) hq h)
theorem pass_flag : ∀ (l : List S35) (s : List Bool × Bool), s.2 = true → (pass l s).2 = true
  | [], s, h => h
  | e :: l, s, h => by
    show (pass l (st1 s e)).2 = true
    refine pass_flag l _ ?_
    unfold st1
    split
    · rfl
    · exact h
theorem pass_closed : ∀ (l : List S35) (x : List Bool), (pass l (x, false)).2 = false → (pass l (x, false)).1 = x ∧ ∀ e ∈ l, e.f3 = true → lget x e.f0 = true → lget x e.f1 = true
  | [], x, _ => ⟨rfl, fun e he => by cases he⟩
  | e :: l, x, h => by
    have h' : (pass l (st1 (x, false) e)).2 = false := h
    show (pass l (st1 (x, false) e)).1 = x ∧ _
    have hs : st1 (x, false) e = (x, false) ∧ ¬ (e.f3 = true ∧ lget x e.f0 = true ∧ lget x e.f1 = false) := by
      by_cases c : e.f3 = true ∧ lget x e.f0 = true ∧ lget x e.f1 = false
      · have hf : (st1 (x, false) e).2 = true := by unfold st1; rw [if_pos c]
        rw [pass_flag l _ hf] at h'; cases h'
      · exact ⟨by unfold st1; rw [if_neg c], c⟩
    rw [hs.1] at h' ⊢
    obtain ⟨k1, k2⟩ := pass_closed l x h'
    refine ⟨k1, fun e' he' f1 f2 => ?_⟩
    rcases List.mem_cons.1 he' with rfl | he'
    · cases q : lget x e'.f1 with
      | true => rfl
      | false => exact absurd ⟨f1, f2, q⟩ hs.2
    · exact k2 e' he' f1 f2
theorem cl_snd {n : S24} (h : Rt n) {x0 : List Bool} : ∀ (k : Nat) (x : List Bool), x.length = NN n → Snd n.f1 x0 x → Snd n.f1 x0 (cl n.f1 k x)
  | 0, x, _, hs => hs
  | k + 1, x, hx, hs => by
    have hnn := h.nn
    have hp := pass_snd (L := n.f1) (x := x0) (N := n.f0) n.f1 (x, false) (fun e he => ⟨he, (h.ed e he).1, (h.ed e he).2.2.1, (h.ed e he).2.2.2⟩) (by show (x.length : Int) = _; omega) hs
    rw [cl]
    split
    · exact cl_snd h k _ ((pass_len _ _).trans hx) hp
    · exact hp
theorem cl_mono {n : S24} (h : Rt n) {q : Int} (hq : 0 ≤ q) : ∀ (k : Nat) (x : List Bool), x.length = NN n → lget x q = true → lget (cl n.f1 k x) q = true
  | 0, x, _, hs => hs
  | k + 1, x, hx, hs => by
    have hnn := h.nn
    have hp := pass_mono (N := n.f0) hq n.f1 (x, false) (fun e he => ⟨(h.ed e he).2.2.1, (h.ed e he).2.2.2⟩) (by show (x.length : Int) = _; omega) hs
    rw [cl]
    split
    · exact cl_mono h hq k _ ((pass_len _ _).trans hx) hp
    · exact hp
theorem cl_closed {n : S24} (h : Rt n) : ∀ (k : Nat) (x : List Bool), x.length = NN n → NN n - cnt x < k → ∀ e ∈ n.f1, e.f3 = true → lget (cl n.f1 k x) e.f0 = true → lget (cl n.f1 k x) e.f1 = true
  | 0, x, _, hk => by omega
  | k + 1, x, hx, hk => by
    have hnn := h.nn
    rw [cl]
    split
    · rename_i q
      have hp := pass_len n.f1 (x, false)
      have hp' : (pass n.f1 (x, false)).1.length = x.length := hp
      have hle := cnt_le (pass n.f1 (x, false)).1
      rcases pass_cnt n.f0 n.f1 (x, false) (fun e he => ⟨(h.ed e he).2.2.1, (h.ed e he).2.2.2⟩) (by show (x.length : Int) = _; omega) with r | ⟨_, r⟩
      · rw [r] at q; cases q
      · have r' : cnt x < cnt (pass n.f1 (x, false)).1 := r
        exact cl_closed h k _ (hp'.trans hx) (by rw [hp'] at hle; omega)
    · rename_i q
      obtain ⟨k1, k2⟩ := pass_closed n.f1 x (by simpa using q)
      rw [k1]; exact k2
/-- What stands in a closed row. -/
theorem CL_iff {n : S24} (h : Rt n) {x : List Bool} (hx : x.length = NN n) {q : Int} (hq : 0 ≤ q) : lget (CL n x) q = true ↔ ∃ p, 0 ≤ p ∧ lget x p = true ∧ FR n.f1 p q := by
  constructor
  · intro hg
    exact cl_snd h (NN n + 1) x hx (fun q h0 h1 => ⟨q, h0, h1, .refl q⟩) q hq hg
  · rintro ⟨p, p0, p1, p2⟩
    have base := cl_mono h p0 (NN n + 1) x hx p1
    have key : ∀ r, FR n.f1 p r → lget (CL n x) r = true := by
      intro r hr
      induction hr with
      | refl => exact base
      | tail _ he hf ih => exact cl_closed h (NN n + 1) x hx (by omega) _ he hf ih
    exact key q p2
theorem mvf_iff (x : List Bool) (b : Nat) {N : Int} {q : Int} (hq : 0 ≤ q) : ∀ (l : List S35) (o : List Bool), (∀ e ∈ l, 0 ≤ e.f1 ∧ e.f1 < N) → (o.length : Int) = N →
    (lget (l.foldl (mv1 x b) o) q = true ↔ lget o q = true ∨ ∃ e ∈ l, e.f3 = false ∧ e.f0 < (x.length : Int) ∧ lget x e.f0 = true ∧ tb e.f2 b = true ∧ e.f1 = q)
  | [], o, _, _ => by simp
  | e :: l, o, hl, ho => by
    have he := hl e (by simp)
    have ih := mvf_iff x b hq l (mv1 x b o e) (fun e' h' => hl e' (by simp [h'])) (by rw [mv1_len]; exact ho)
    rw [List.foldl_cons, ih]
    have h1 : lget (mv1 x b o e) q = true ↔ lget o q = true ∨ (e.f3 = false ∧ e.f0 < (x.length : Int) ∧ lget x e.f0 = true ∧ tb e.f2 b = true ∧ e.f1 = q) := by
      unfold mv1
      split
      · rename_i c
        rw [lget_lset o e.f1 q he.1 (by rw [ho]; exact he.2) hq, Bool.or_eq_true, decide_eq_true_eq]
        constructor
        · rintro (r | r)
          · exact .inr ⟨c.1, c.2.1, c.2.2.1, c.2.2.2, r.symm⟩
          · exact .inl r
        · rintro (r | r)
          · exact .inr r
          · exact .inl r.2.2.2.2.symm
      · rename_i c
        exact ⟨.inl, fun r => r.elim id fun r => absurd ⟨r.1, r.2.1, r.2.2.1, r.2.2.2.1⟩ c⟩
    rw [h1, or_assoc]
    simp [List.mem_cons, or_and_right, exists_or]
theorem MV_iff {n : S24} (h : Rt n) (x : List Bool) (b : Nat) {q : Int} (hq : 0 ≤ q) : lget (MV n x b) q = true ↔ ∃ e ∈ n.f1, e.f3 = false ∧ e.f0 < (x.length : Int) ∧ lget x e.f0 = true ∧ tb e.f2 b = true ∧ e.f1 = q := by
  have hnn := h.nn
  have := mvf_iff x b (N := n.f0) hq n.f1 (List.replicate (NN n) false) (fun e he => ⟨(h.ed e he).2.2.1, (h.ed e he).2.2.2⟩) (by rw [List.length_replicate]; omega)
  unfold MV
  rw [this, lget_rep]; simp
/-- The states that a text leads to. -/
inductive Rch (n : S24) (s : ByteArray) : Nat → Int → Prop
  | start : Rch n s 0 n.f2
  | free {i : Nat} {e : S35} : Rch n s i e.f0 → e ∈ n.f1 → e.f3 = true → Rch n s i e.f1
  | byte {i : Nat} {e : S35} : Rch n s i e.f0 → e ∈ n.f1 → e.f3 = false → tb e.f2 (byteAt s i).toNat = true → Rch n s (i + 1) e.f1
theorem Rch.fr {n : S24} {s : ByteArray} {i : Nat} {p q : Int} (h : Rch n s i p) (k : FR n.f1 p q) : Rch n s i q := by
  induction k with
  | refl => exact h
  | tail _ he hf ih => exact .free ih he hf
theorem Rch.in {n : S24} (h : Rt n) {s : ByteArray} {i : Nat} {q : Int} (k : Rch n s i q) : 0 ≤ q ∧ q < n.f0 := by
  cases k with
  | start => exact h.first
  | free _ he _ => exact (h.ed _ he).2.2
  | byte _ he _ _ => exact (h.ed _ he).2.2
theorem RN_iff {n : S24} (h : Rt n) (s : ByteArray) : ∀ (i : Nat) {q : Int}, 0 ≤ q → (lget (RN n s i) q = true ↔ Rch n s i q)
  | 0, q, hq => by
    have hnn := h.nn
    have hf := h.first
    have hl : (List.replicate (NN n) false).length = NN n := List.length_replicate
    rw [RN, CL_iff h (by rw [lset_len, hl]) hq]
    constructor
    · rintro ⟨p, p0, p1, p2⟩
      rw [lget_lset _ _ _ hf.1 (by rw [hl]; omega) p0, lget_rep, Bool.or_false, decide_eq_true_eq] at p1
      subst p1
      exact Rch.fr .start p2
    · intro k
      have hst : lget (lset (List.replicate (NN n) false) n.f2 true) n.f2 = true := by
        rw [lget_lset _ _ _ hf.1 (by rw [hl]; omega) hf.1]; simp
      generalize hi : 0 = i at k
      induction k with
      | start => exact ⟨_, hf.1, hst, .refl _⟩
      | free _ he hfr ih =>
        obtain ⟨p, p0, p1, p2⟩ := ih (h.ed _ he).1 hi
        exact ⟨p, p0, p1, .tail p2 he hfr⟩
      | byte => cases hi
  | i + 1, q, hq => by
    have ih := fun {q} => RN_iff h s i (q := q)
    have hml := MV_len n (RN n s i) (byteAt s i).toNat
    rw [RN, CL_iff h hml hq]
    have hnn := h.nn
    constructor
    · rintro ⟨p, p0, p1, p2⟩
      rw [MV_iff h _ _ p0] at p1
      obtain ⟨e, he, e1, e2, e3, e4, rfl⟩ := p1
      exact Rch.fr (.byte ((ih (h.ed e he).1).1 e3) he e1 e4) p2
    · intro k
      generalize hi : i + 1 = i' at k
      induction k with
      | start => cases hi
      | free _ he hfr ih' =>
        obtain ⟨p, p0, p1, p2⟩ := ih' (h.ed _ he).1 hi
        exact ⟨p, p0, p1, .tail p2 he hfr⟩
      | @byte i2 e hr he e1 e4 _ =>
        obtain rfl : i = i2 := by omega
        refine ⟨e.f1, (h.ed e he).2.2.1, ?_, .refl _⟩
        rw [MV_iff h _ _ (h.ed e he).2.2.1]
        exact ⟨e, he, e1, by rw [RN_len]; have := (h.ed e he).2.1; omega, (ih (h.ed e he).1).2 hr, e4, rfl⟩
end Go.Avl.T3
/- NfaUnions: the plain law. -/
namespace Go.Avl.T3
open Go Go.RowKit Go.Proofs Go.Avl
set_option linter.all false
set_option maxRecDepth 10000

theorem awake06u : bosketlaw06_awake 2000 = some true := by decide +kernel
def stE (n : S24) (o : Int) : S35 := S35.mk 0 (n.f2 + o) (Vector.replicate 4 (0 : Int)) true
def sh (o : Int) (e : S35) : S35 := S35.mk (e.f0 + o) (e.f1 + o) e.f2 e.f3
def ued : List S24 → Int → List S35
  | [], _ => []
  | n :: l, o => stE n o :: (n.f1.map (sh o) ++ ued l (o + n.f0))
def ula : List S24 → Int → List Int
  | [], _ => []
  | n :: l, o => (n.f3 + o) :: ula l (o + n.f0)
def uto : List S24 → Int → Int
  | [], o => o
  | n :: l, o => uto l (o + n.f0)
/-- A machine in the list, and where its states begin. -/
inductive Pl : List S24 → Int → S24 → Int → Prop
  | here {n : S24} {l : List S24} {o : Int} : Pl (n :: l) o n o
  | there {m n : S24} {l : List S24} {o p : Int} : Pl l (o + m.f0) n p → Pl (m :: l) o n p
structure Sm (n : S24) : Prop where
  rt : Rt n
  s : n.f0 ≤ 30
  e : n.f1.length ≤ 100
theorem uto_le : ∀ (l : List S24) (o : Int), (∀ n ∈ l, Sm n) → o ≤ uto l o ∧ uto l o ≤ o + 30 * l.length
  | [], o, _ => by simp [uto]
  | n :: l, o, h => by
    have hn := h n (by simp)
    have h1 := hn.rt.first
    have h2 := hn.s
    have ih := uto_le l (o + n.f0) (fun m hm => h m (by simp [hm]))
    simp only [uto, List.length_cons]
    omega
theorem Pl.mem {l : List S24} {o p : Int} {n : S24} (h : Pl l o n p) : n ∈ l := by
  induction h with
  | here => simp
  | there _ ih => simp [ih]
theorem Pl.rng {l : List S24} {o p : Int} {n : S24} (h : Pl l o n p) (hs : ∀ n ∈ l, Sm n) : o ≤ p ∧ p + n.f0 ≤ uto l o := by
  induction h with
  | @here n l o =>
    have := uto_le l (o + n.f0) (fun m hm => hs m (by simp [hm]))
    exact ⟨Int.le_refl _, this.1⟩
  | @there m n l o p h ih =>
    have hm := (hs m (by simp)).rt.first
    have := ih (fun m hm => hs m (by simp [hm]))
    exact ⟨by omega, this.2⟩
theorem Pl.apart {l : List S24} {o p p' : Int} {n n' : S24} (h : Pl l o n p) (h' : Pl l o n' p') (hs : ∀ n ∈ l, Sm n) : (n = n' ∧ p = p') ∨ p + n.f0 ≤ p' ∨ p' + n'.f0 ≤ p := by
  induction h with
  | @here n l o =>
    cases h' with
    | here => exact .inl ⟨rfl, rfl⟩
    | there k => exact .inr (.inl (k.rng fun m hm => hs m (by simp [hm])).1)
  | @there m n l o p h ih =>
    cases h' with
    | here => exact .inr (.inr (h.rng fun m hm => hs m (by simp [hm])).1)
    | there k => exact ih k fun m hm => hs m (by simp [hm])
theorem ued_mem : ∀ (l : List S24) (o : Int) (e : S35), e ∈ ued l o ↔ ∃ n p, Pl l o n p ∧ (e = stE n p ∨ ∃ d ∈ n.f1, e = sh p d)
  | [], o, e => by
    constructor
    · intro h; simp [ued] at h
    · rintro ⟨n, p, h, _⟩; cases h
  | n :: l, o, e => by
    have ih := ued_mem l (o + n.f0) e
    simp only [ued, List.mem_cons, List.mem_append, List.mem_map, ih]
    constructor
    · rintro (h | ⟨d, hd, h⟩ | ⟨m, p, hp, h⟩)
      · exact ⟨n, o, .here, .inl h⟩
      · exact ⟨n, o, .here, .inr ⟨d, hd, h.symm⟩⟩
      · exact ⟨m, p, .there hp, h⟩
    · rintro ⟨m, p, hp, h⟩
      cases hp with
      | here =>
        rcases h with h | ⟨d, hd, h⟩
        · exact .inl h
        · exact .inr (.inl ⟨d, hd, h.symm⟩)
      | there hp => exact .inr (.inr ⟨m, p, hp, h⟩)
theorem ued_len : ∀ (l : List S24) (o : Int), (∀ n ∈ l, Sm n) → (ued l o).length ≤ 101 * l.length
  | [], o, _ => by simp [ued]
  | n :: l, o, h => by
    have h2 := (h n (by simp)).e
    have ih := ued_len l (o + n.f0) (fun m hm => h m (by simp [hm]))
    simp only [ued, List.length_cons, List.length_append, List.length_map]
    omega
theorem ula_len : ∀ (l : List S24) (o : Int), (ula l o).length = l.length
  | [], _ => rfl
  | n :: l, o => by simp [ula, ula_len l]
theorem ula_get : ∀ (l : List S24) (o : Int) (j : Nat) (h : j < l.length), ∃ p, Pl l o l[j] p ∧ (ula l o)[j]'(by rw [ula_len]; exact h) = l[j].f3 + p
  | n :: l, o, 0, _ => ⟨o, .here, rfl⟩
  | n :: l, o, j + 1, h => by
    obtain ⟨p, p1, p2⟩ := ula_get l (o + n.f0) j (by simpa using h)
    exact ⟨p, .there p1, p2⟩
/-- All as one. -/
def UN (l : List S24) : S24 := S24.mk (uto l 1) (ued l 1) 0 0
theorem UN_rt {l : List S24} (hs : ∀ n ∈ l, Sm n) (hl : l.length ≤ 6) : Rt (UN l) := by
  have h1 := uto_le l 1 hs
  have h2 := ued_len l 1 hs
  refine ⟨⟨by show (0 : Int) ≤ 0; omega, by show (0 : Int) < uto l 1; omega⟩, ⟨by show (0 : Int) ≤ 0; omega, by show (0 : Int) < uto l 1; omega⟩, fun e he => ?_, by show uto l 1 ≤ 1000; omega, by show (ued l 1).length ≤ 1000; omega, fun e he => ?_⟩
  · obtain ⟨n, p, hp, h⟩ := (ued_mem l 1 e).1 he
    have hr := hp.rng hs
    have hn := (hs n hp.mem).rt
    show 0 ≤ e.f0 ∧ e.f0 < uto l 1 ∧ 0 ≤ e.f1 ∧ e.f1 < uto l 1
    rcases h with rfl | ⟨d, hd, rfl⟩
    · have := hn.first
      show 0 ≤ (0 : Int) ∧ (0 : Int) < uto l 1 ∧ 0 ≤ n.f2 + p ∧ n.f2 + p < uto l 1
      omega
    · have := hn.ed d hd
      show 0 ≤ d.f0 + p ∧ d.f0 + p < uto l 1 ∧ 0 ≤ d.f1 + p ∧ d.f1 + p < uto l 1
      omega
  · obtain ⟨n, p, hp, h⟩ := (ued_mem l 1 e).1 he
    rcases h with rfl | ⟨d, hd, rfl⟩
    · exact U_zero
    · exact (hs n hp.mem).rt.u d hd
theorem un_to {l : List S24} (hs : ∀ n ∈ l, Sm n) {s : ByteArray} {i : Nat} {r : Int} (h : Rch (UN l) s i r) : (r = 0 ∧ i = 0) ∨ ∃ n p q, Pl l 1 n p ∧ r = q + p ∧ 0 ≤ q ∧ q < n.f0 ∧ Rch n s i q := by
  have one : ∀ {n p}, Pl l 1 n p → 1 ≤ p := fun h => (h.rng hs).1
  have same : ∀ {n m : S24} {p p' q q' : Int}, Pl l 1 n p → Pl l 1 m p' → 0 ≤ q → q < n.f0 → 0 ≤ q' → q' < m.f0 → q + p = q' + p' → n = m ∧ p = p' ∧ q = q' := by
    intro n m p p' q q' h1 h2 a1 a2 b1 b2 e
    rcases h1.apart h2 hs with ⟨x, y⟩ | k | k
    · exact ⟨x, y, by omega⟩
    · omega
    · omega
  induction h with
  | start => exact .inl ⟨rfl, rfl⟩
  | @free i e hr he hf ih =>
    obtain ⟨n, p, hp, h⟩ := (ued_mem l 1 e).1 he
    have hn := (hs n hp.mem).rt
    have h1 := one hp
    rcases h with rfl | ⟨d, hd, rfl⟩
    · rcases ih with ⟨_, rfl⟩ | ⟨m, p', q, hm, e1, e2, e3, e4⟩
      · exact .inr ⟨n, p, n.f2, hp, rfl, hn.first.1, hn.first.2, .start⟩
      · have := one hm
        have e1' : (0 : Int) = q + p' := e1
        omega
    · have hd' := hn.ed d hd
      rcases ih with ⟨e0, _⟩ | ⟨m, p', q, hm, e1, e2, e3, e4⟩
      · have e0' : d.f0 + p = 0 := e0
        omega
      · obtain ⟨rfl, rfl, rfl⟩ := same hp hm hd'.1 hd'.2.1 e2 e3 e1
        exact .inr ⟨n, p, d.f1, hp, rfl, hd'.2.2.1, hd'.2.2.2, .free e4 hd hf⟩
  | @byte i e hr he hf hb ih =>
    obtain ⟨n, p, hp, h⟩ := (ued_mem l 1 e).1 he
    have hn := (hs n hp.mem).rt
    have h1 := one hp
    rcases h with rfl | ⟨d, hd, rfl⟩
    · cases hf
    · have hd' := hn.ed d hd
      rcases ih with ⟨e0, _⟩ | ⟨m, p', q, hm, e1, e2, e3, e4⟩
      · have e0' : d.f0 + p = 0 := e0
        omega
      · obtain ⟨rfl, rfl, rfl⟩ := same hp hm hd'.1 hd'.2.1 e2 e3 e1
        exact .inr ⟨n, p, d.f1, hp, rfl, hd'.2.2.1, hd'.2.2.2, .byte e4 hd hf hb⟩
theorem un_of {l : List S24} {n : S24} {p : Int} (hp : Pl l 1 n p) {s : ByteArray} {i : Nat} {q : Int} (h : Rch n s i q) : Rch (UN l) s i (q + p) := by
  induction h with
  | start =>
    have := Rch.free (n := UN l) (s := s) (i := 0) (e := stE n p) .start ((ued_mem l 1 _).2 ⟨n, p, hp, .inl rfl⟩) rfl
    exact this
  | @free i e hr he hf ih =>
    exact Rch.free (n := UN l) (e := sh p e) ih ((ued_mem l 1 _).2 ⟨n, p, hp, .inr ⟨e, he, rfl⟩⟩) hf
  | @byte i e hr he hf hb ih =>
    exact Rch.byte (n := UN l) (e := sh p e) ih ((ued_mem l 1 _).2 ⟨n, p, hp, .inr ⟨e, he, rfl⟩⟩) hf hb
theorem un_run {l : List S24} (hs : ∀ n ∈ l, Sm n) (hl : l.length ≤ 6) {n : S24} {p : Int} (hp : Pl l 1 n p) (s : ByteArray) (i : Nat) : lget (RN (UN l) s i) (n.f3 + p) = lget (RN n s i) n.f3 := by
  have hr := hp.rng hs
  have hn := (hs n hp.mem).rt
  have hlast := hn.last
  rw [Bool.eq_iff_iff, RN_iff (UN_rt hs hl) s i (by omega), RN_iff hn s i hlast.1]
  constructor
  · intro h
    rcases un_to hs h with ⟨e, _⟩ | ⟨m, p', q, hm, e1, e2, e3, e4⟩
    · omega
    · rcases hp.apart hm hs with ⟨rfl, rfl⟩ | k | k
      · have : q = n.f3 := by omega
        rw [← this]; exact e4
      · omega
      · omega
  · exact un_of hp
/-! The program's walk. -/
theorem w1 {x : Int} (h0 : -1000000 ≤ x) (h1 : x ≤ 1000000) : w64 x = x := w64_id (by omega) (by omega)
theorem union_l3 (rec15 : Int → List S35 → List Int → Int → Option (S24 × List Int)) (p0 : List S24) (o : Int) (la : List Int) (i : Nat) (hi : i < p0.length) (n : S24) (hn : p0[i] = n) (hs : Sm n) (ho : 0 ≤ o ∧ o ≤ 100000) :
    ∀ (d j m : Nat) (acc : List S35), j + d = n.f1.length → d < m → acc.length ≤ 10000 + j →
    nfa_Union_l3 2000 rec15 p0 o la (i : Int) m acc (j : Int) = nfa_Union_c2 2000 rec15 p0 o la (i : Int) (acc ++ (n.f1.drop j).map (sh o))
  | 0, j, m + 1, acc, hj, _, ha => by
    rw [nfa_Union_l3.eq_2, lget_lt p0 i hi, hn, if_neg (by omega), List.drop_of_length_le (by omega)]; simp
  | d + 1, j, m + 1, acc, hj, hm, ha => by
    have hj' : j < n.f1.length := by omega
    have g : 0 ≤ (j : Int) ∧ (j : Int) < (n.f1.length : Int) := ⟨by omega, by omega⟩
    have he := hs.rt.ed n.f1[j] (List.getElem_mem hj')
    have hsz := hs.s
    have hez := hs.e
    have ih := union_l3 rec15 p0 o la i hi n hn hs ho d (j + 1) m (acc ++ [sh o n.f1[j]]) (by omega) (by omega) (by simp; omega)
    rw [nfa_Union_l3.eq_2, lget_lt p0 i hi, hn, if_pos g.2, if_pos g, lget_lt _ j hj', w1 (x := n.f1[j].f0 + o) (by omega) (by omega), w1 (x := n.f1[j].f1 + o) (by omega) (by omega), if_pos (by simp; omega), w1 (x := (j : Int) + 1) (by omega) (by omega), List.drop_eq_getElem_cons hj', List.map_cons]
    rw [List.append_assoc] at ih
    exact_mod_cast ih
theorem union_l4 (p0 : List S24) (hs : ∀ n ∈ p0, Sm n) (hl : p0.length ≤ 6) : ∀ (d i m : Nat) (o : Int) (acc : List S35) (la : List Int), i + d = p0.length → d < m → 0 ≤ o ∧ o ≤ 1000 * (i + 1) → acc.length ≤ 101 * i → la.length ≤ i →
    nfa_Union_l4 2000 p0 m o acc la (i : Int) = some (S24.mk (uto (p0.drop i) o) (acc ++ ued (p0.drop i) o) 0 0, la ++ ula (p0.drop i) o)
  | 0, i, m + 1, o, acc, la, hi, _, ho, ha, hla => by
    rw [nfa_Union_l4.eq_2, if_neg (by omega), List.drop_of_length_le (by omega), nfa_Union_c0]; simp [uto, ued, ula]
  | d + 1, i, m + 1, o, acc, la, hi, hm, ho, ha, hla => by
    have hi' : i < p0.length := by omega
    have g : 0 ≤ (i : Int) ∧ (i : Int) < (p0.length : Int) := ⟨by omega, by omega⟩
    have hn := hs p0[i] (List.getElem_mem hi')
    have hf := hn.rt.first
    have hla' := hn.rt.last
    have hsz := hn.s
    have hez := hn.e
    have ih := union_l4 p0 hs hl d (i + 1) m (o + p0[i].f0) (acc ++ (stE p0[i] o :: p0[i].f1.map (sh o))) (la ++ [p0[i].f3 + o]) (by omega) (by omega) (by omega) (by simp; omega) (by simp; omega)
    rw [nfa_Union_l4.eq_2, if_pos g.2, if_pos g, lget_lt p0 i hi', w1 (x := p0[i].f2 + o) (by omega) (by omega), if_pos (by simp; omega)]
    have e := union_l3 (nfa_Union_l4 2000 p0 m) p0 o la i hi' p0[i] rfl hn (by omega) p0[i].f1.length 0 2000 (acc ++ [stE p0[i] o]) (by omega) (by omega) (by simp; omega)
    rw [Int.natCast_zero, List.drop_zero] at e
    refine Eq.trans e ?_
    unfold nfa_Union_c2 nfa_Union_c1
    rw [lget_lt p0 i hi', w1 (x := p0[i].f3 + o) (by omega) (by omega), if_pos (by simp; omega), w1 (x := o + p0[i].f0) (by omega) (by omega), w1 (x := (i : Int) + 1) (by omega) (by omega), List.drop_eq_getElem_cons hi']
    simp only [uto, ued, ula]
    simp only [List.append_assoc, List.cons_append, List.nil_append] at ih ⊢
    exact_mod_cast ih
theorem union_eq (p0 : List S24) (hs : ∀ n ∈ p0, Sm n) (hl : p0.length ≤ 6) : nfa_Union 2000 p0 = some (UN p0, ula p0 1) := by
  have := union_l4 p0 hs hl p0.length 0 2000 1 [] [] (by omega) (by omega) (by omega) (by simp) (by simp)
  rw [Int.natCast_zero, List.drop_zero, List.nil_append, List.nil_append] at this
  exact this
theorem unions_l1 (p0 : List S24) (hs : ∀ n ∈ p0, Sm n) (hl : p0.length ≤ 6) (s : ByteArray) (hz : s.size ≤ 1000) : ∀ (d i m : Nat), i + d = p0.length → d < m →
    bosketlaw06_NfaUnions_l1 2000 p0 s (uto p0 1) (UN p0, ula p0 1) (RN (UN p0) s s.size) m (i : Int) = some true
  | 0, i, m + 1, hi, _ => by rw [bosketlaw06_NfaUnions_l1.eq_2, if_neg (by omega)]; rfl
  | d + 1, i, m + 1, hi, hm => by
    have hi' : i < p0.length := by omega
    have g : 0 ≤ (i : Int) ∧ (i : Int) < (p0.length : Int) := ⟨by omega, by omega⟩
    have hul := ula_len p0 1
    have g2 : 0 ≤ (i : Int) ∧ (i : Int) < ((ula p0 1).length : Int) := ⟨by omega, by omega⟩
    obtain ⟨p, q1, q2⟩ := ula_get p0 1 i hi'
    have hrng := q1.rng hs
    have hn := hs p0[i] (List.getElem_mem hi')
    have hlast := hn.rt.last
    have hzU := RN_len (UN p0) s s.size
    have hnU := (UN_rt hs hl).nn
    have hzn := RN_len p0[i] s s.size
    have hnn := hn.rt.nn
    have hU0 : (UN p0).f0 = uto p0 1 := rfl
    have ih := unions_l1 p0 hs hl s hz d (i + 1) m (by omega) (by omega)
    rw [bosketlaw06_NfaUnions_l1.eq_2, if_pos g.2]
    simp only []
    rw [if_pos g2, lget_lt (ula p0 1) i (by omega), q2, if_neg (by omega), if_pos g2, if_neg (by omega), if_pos g2, if_pos ⟨by omega, by omega⟩, if_pos g, lget_lt p0 i hi', nrun_eq hn.rt s hz, Option.bind_some, if_pos g, if_pos ⟨hlast.1, by omega⟩, un_run hs hl q1 s s.size, Option.bind_some, if_neg (by simp), w1 (by omega) (by omega)]
    exact_mod_cast ih
theorem unions_l3 (p0 : List S24) (hw : ∀ n ∈ p0, ∀ e ∈ n.f1, U e.f2) (hl : p0.length ≤ 6) (s : ByteArray) (hz : s.size ≤ 1000) : ∀ (d i m : Nat) (t : Int), i + d = p0.length → d < m → (∀ j (h : j < p0.length), j < i → Sm p0[j]) → 0 ≤ t ∧ t ≤ 1 + 30 * i → uto (p0.drop i) t = uto p0 1 →
    bosketlaw06_NfaUnions_l3 2000 p0 s m t (i : Int) = some true
  | 0, i, m + 1, t, hi, _, hs, ht, hu => by
    rw [bosketlaw06_NfaUnions_l3.eq_2, if_neg (by omega)]
    have hs' : ∀ n ∈ p0, Sm n := fun n hn => by
      obtain ⟨j, hj, rfl⟩ := List.getElem_of_mem hn
      exact hs j hj (by omega)
    have hrt := UN_rt hs' hl
    have e : t = uto p0 1 := by rw [← hu, List.drop_of_length_le (by omega)]; rfl
    subst e
    unfold bosketlaw06_NfaUnions_c2
    rw [union_eq p0 hs' hl, Option.bind_some]
    simp only []
    rw [if_neg (by show ¬ (uto p0 1 ≠ uto p0 1); simp), if_neg (by show ¬ ((0 : Int) ≠ 0); simp), if_neg (by show ¬ ((0 : Int) ≠ 0); simp), rright_eq _ hrt.n2, hrt.rt, Option.bind_some, if_neg (by decide), ula_len, Option.bind_some, if_neg (by simp), nrun_eq hrt s hz, Option.bind_some]
    exact_mod_cast unions_l1 p0 hs' hl s hz p0.length 0 2000 (by omega) (by omega)
  | d + 1, i, m + 1, t, hi, hm, hs, ht, hu => by
    have hi' : i < p0.length := by omega
    have g : 0 ≤ (i : Int) ∧ (i : Int) < (p0.length : Int) := ⟨by omega, by omega⟩
    rw [bosketlaw06_NfaUnions_l3.eq_2, if_pos g.2, if_pos g, lget_lt p0 i hi', if_pos g, if_pos g]
    by_cases z1 : (30 : Int) < p0[i].f0
    · rw [if_pos z1, Option.bind_some, if_pos rfl]
    by_cases z2 : (100 : Int) < (p0[i].f1.length : Int)
    · rw [if_neg z1, if_pos z2, Option.bind_some, if_pos rfl]
    rw [if_neg z1, if_neg z2, rright_eq _ (by omega), Option.bind_some]
    cases hr : rtB p0[i] with
    | false => rfl
    | true =>
      have hn : Sm p0[i] := ⟨rt_of hr (by omega) (by omega) (hw _ (List.getElem_mem hi')), by omega, by omega⟩
      have hf := hn.rt.first
      rw [Option.bind_some, if_neg (by decide), if_pos g, w1 (x := t + p0[i].f0) (by omega) (by omega), w1 (x := (i : Int) + 1) (by omega) (by omega)]
      have ih := unions_l3 p0 hw hl s hz d (i + 1) m (t + p0[i].f0) (by omega) (by omega) (fun j h hj => by
        by_cases q : j = i
        · subst q; exact hn
        · exact hs j h (by omega)) (by omega) (by rw [← hu, List.drop_eq_getElem_cons hi']; rfl)
      exact_mod_cast ih
theorem bosketlaw06_NfaUnions_true (a0 : (List S24)) (a1 : ByteArray) (h0 : wf42 a0) (h1 : wf9 a1) (h2 : a1.size ≤ 140737488351232) : ∃ k, bosketlaw06_NfaUnions k a0 a1 = some true := by
  refine ⟨2000, ?_⟩
  unfold bosketlaw06_NfaUnions
  rw [awake06u, Option.bind_some, if_neg (by decide)]
  by_cases z1 : (6 : Int) < (a0.length : Int)
  · rw [if_pos z1]; rfl
  rw [if_neg z1, Option.bind_some]
  by_cases z2 : (12 : Int) < (a1.size : Int)
  · rw [if_pos (by simpa using z2)]
  rw [if_neg (by simpa using z2)]
  exact_mod_cast unions_l3 a0 (fun n hn e he => U_of (((h0.2 n hn).2.1.2 e he).2.2.1)) (by omega) a1 (by omega) a0.length 0 2000 1 (by omega) (by omega) (fun j h hj => by omega) (by omega) rfl
end Go.Avl.T3
