/- Parts: T3W, T3S1, T3N1, T3D0, T3D1, T3D2. -/
import Derived.Test.YtcdennkoccjacaaAF1
import Derived.Test.YtcdennkoccjacaaAv4
import Derived.Laws.Bits64b
import Derived.Test.YtcdennkoccjacaaAF2
import Derived.Test.YtcdennkoccjacaaAF3
import Derived.Test.YtcdennkoccjacaaAF4
import Derived.Test.YtcdennkoccjacaaAF5
/- Opening of the arguments; printed by avlaw.py. -/
namespace Go.Avl.T3
open Go Go.RowKit Go.Proofs Go.Avl
set_option linter.unusedVariables false
set_option maxRecDepth 100000
abbrev e22 (l : List S35) : AV := .fz 7 (l.map e35)
abbrev e42 (l : List S24) : AV := .fz 4 (l.map e24)
abbrev e47 (v : Vector Int 256) : AV := .ar 1 (v.toList.map eU8)
abbrev e48 (l : List (List Int)) : AV := .fz 1 (l.map e43)
abbrev e51 (v : Vector Int 2) : AV := .ar 1 (v.toList.map eU8)
abbrev e59 (v : Vector ByteArray 2) : AV := .ar 1 (v.toList.map eStr)
theorem ag25 : tyAgg Try.prog 25 = some false := by rfl
theorem ag42 : tyAgg Try.prog 42 = some false := by rfl
theorem sz51 : tySize Try.prog 51 = some 2 := by rfl
theorem ag51 : tyAgg Try.prog 51 = some true := by rfl
theorem sz59 : tySize Try.prog 59 = some 2 := by rfl
theorem ag59 : tyAgg Try.prog 59 = some true := by rfl
theorem ag60 : tyAgg Try.prog 60 = some false := by rfl
abbrev wf3 : Int → Prop := (fun n : Int => (Lit.int .i64 n).wf = true)
theorem op3 : Opens Try.prog 3 eI64 wf3 := opens_int Try.underlying3
abbrev wf31 : Int → Prop := (fun n : Int => (Lit.int .u64 n).wf = true)
theorem op31 : Opens Try.prog 31 eU64 wf31 := opens_int Try.underlying31
abbrev wf33 : (Vector Int 4) → Prop := (fun l : Vector Int 4 => ∀ a ∈ l.toList, wf31 a)
theorem op33 : Opens Try.prog 33 e33 wf33 := opens_array Try.underlying33 sz31 sz33 op31
abbrev wf4 : Bool → Prop := (fun _ : Bool => True)
theorem op4 : Opens Try.prog 4 eBool wf4 := opens_bool Try.underlying4
abbrev wf35 : S35 → Prop := (fun x : S35 => wf3 x.f0 ∧ wf3 x.f1 ∧ wf33 x.f2 ∧ wf4 x.f3)
theorem op35 : Opens Try.prog 35 e35 wf35 := (opens_struct Try.underlying35 sz35 (opensF_cons rfl sz3 (by decide) op3 (opensF_cons rfl sz3 (by decide) op3 (opensF_cons rfl sz33 (by decide) op33 (opensF_cons rfl sz4 (by decide) op4 (opensF_nil _)))))).map (fun p => S35.mk p.1 p.2.1 p.2.2.1 p.2.2.2.1) (fun _ => rfl) (fun _ h => ⟨h.1, h.2.1, h.2.2.1, h.2.2.2.1⟩)
abbrev wf22 : (List S35) → Prop := (fun l : List S35 => l.length ≤ 9223372036854775807 ∧ ∀ a ∈ l, wf35 a)
theorem op22 : Opens Try.prog 22 e22 wf22 := opens_slice Try.underlying22 sz35 op35
abbrev wf24 : S24 → Prop := (fun x : S24 => wf3 x.f0 ∧ wf22 x.f1 ∧ wf3 x.f2 ∧ wf3 x.f3)
theorem op24 : Opens Try.prog 24 e24 wf24 := (opens_struct Try.underlying24 sz24 (opensF_cons rfl sz3 (by decide) op3 (opensF_cons rfl sz22 (by decide) op22 (opensF_cons rfl sz3 (by decide) op3 (opensF_cons rfl sz3 (by decide) op3 (opensF_nil _)))))).map (fun p => S24.mk p.1 p.2.1 p.2.2.1 p.2.2.2.1) (fun _ => rfl) (fun _ h => ⟨h.1, h.2.1, h.2.2.1, h.2.2.2.1⟩)
abbrev wf25 : (List Bool) → Prop := (fun l : List Bool => l.length ≤ 9223372036854775807 ∧ ∀ a ∈ l, wf4 a)
theorem op25 : Opens Try.prog 25 e25 wf25 := opens_slice Try.underlying25 sz4 op4
abbrev wf9 : ByteArray → Prop := (fun s : ByteArray => s.size ≤ 9223372036854775807)
theorem op9 : Opens Try.prog 9 eStr wf9 := opens_string Try.underlying9
abbrev wf42 : (List S24) → Prop := (fun l : List S24 => l.length ≤ 9223372036854775807 ∧ ∀ a ∈ l, wf24 a)
theorem op42 : Opens Try.prog 42 e42 wf42 := opens_slice Try.underlying42 sz24 op24
abbrev wf5 : Int → Prop := (fun n : Int => (Lit.int .u8 n).wf = true)
theorem op5 : Opens Try.prog 5 eU8 wf5 := opens_int Try.underlying5
abbrev wf47 : (Vector Int 256) → Prop := (fun l : Vector Int 256 => ∀ a ∈ l.toList, wf5 a)
theorem op47 : Opens Try.prog 47 e47 wf47 := opens_array Try.underlying47 sz5 sz47 op5
abbrev wf43 : (List Int) → Prop := (fun l : List Int => l.length ≤ 9223372036854775807 ∧ ∀ a ∈ l, wf3 a)
theorem op43 : Opens Try.prog 43 e43 wf43 := opens_slice Try.underlying43 sz3 op3
abbrev wf48 : (List (List Int)) → Prop := (fun l : List (List Int) => l.length ≤ 9223372036854775807 ∧ ∀ a ∈ l, wf43 a)
theorem op48 : Opens Try.prog 48 e48 wf48 := opens_slice Try.underlying48 sz43 op43
abbrev wf50 : S50 → Prop := (fun x : S50 => wf47 x.f0 ∧ wf48 x.f1 ∧ wf43 x.f2)
theorem op50 : Opens Try.prog 50 e50 wf50 := (opens_struct Try.underlying50 sz50 (opensF_cons rfl sz47 (by decide) op47 (opensF_cons rfl sz48 (by decide) op48 (opensF_cons rfl sz43 (by decide) op43 (opensF_nil _))))).map (fun p => S50.mk p.1 p.2.1 p.2.2.1) (fun _ => rfl) (fun _ h => ⟨h.1, h.2.1, h.2.2.1⟩)
abbrev wf51 : (Vector Int 2) → Prop := (fun l : Vector Int 2 => ∀ a ∈ l.toList, wf5 a)
theorem op51 : Opens Try.prog 51 e51 wf51 := opens_array Try.underlying51 sz5 sz51 op5
abbrev wf82 : S82 → Prop := (fun x : S82 => wf3 x.f0 ∧ wf33 x.f1)
theorem op82 : Opens Try.prog 82 e82 wf82 := (opens_struct Try.underlying82 sz82 (opensF_cons rfl sz3 (by decide) op3 (opensF_cons rfl sz33 (by decide) op33 (opensF_nil _)))).map (fun p => S82.mk p.1 p.2.1) (fun _ => rfl) (fun _ h => ⟨h.1, h.2.1⟩)
abbrev wf58 : (List S82) → Prop := (fun l : List S82 => l.length ≤ 9223372036854775807 ∧ ∀ a ∈ l, wf82 a)
theorem op58 : Opens Try.prog 58 e58 wf58 := opens_slice Try.underlying58 sz82 op82
abbrev wf59 : (Vector ByteArray 2) → Prop := (fun l : Vector ByteArray 2 => ∀ a ∈ l.toList, wf9 a)
theorem op59 : Opens Try.prog 59 e59 wf59 := opens_array Try.underlying59 sz9 sz59 op9
abbrev wf60 : Int → Prop := (fun n : Int => (Lit.int .u16 n).wf = true)
theorem op60 : Opens Try.prog 60 eU16 wf60 := opens_int Try.underlying60
end Go.Avl.T3
/- Ported: texts between quotes. -/
namespace Go.Avl.T3
open Go Go.RowKit Go.Proofs Go.Avl
set_option linter.all false
set_option maxRecDepth 10000

def U (a : Vector Int 4) : Prop := ∀ j : Nat, j < 4 → 0 ≤ vget a (j : Int) ∧ vget a (j : Int) < 18446744073709551616
def wd (a : Vector Int 4) (j : Nat) : Nat := (vget a (j : Int)).toNat
/-- Is a byte in a set? -/
def tb (a : Vector Int 4) (b : Nat) : Bool := (wd a (b / 64)).testBit (b % 64)
theorem wd_eq {a : Vector Int 4} (h : U a) (j : Nat) (hj : j < 4) : vget a (j : Int) = (wd a j : Int) ∧ wd a j < 18446744073709551616 := by
  have := h j hj
  unfold wd; omega
theorem vget_vset (v : Vector Int 4) (i j : Nat) (x : Int) (hi : i < 4) (hj : j < 4) : vget (vset v (i : Int) x) (j : Int) = if j = i then x else vget v (j : Int) := by
  unfold vget vset
  rw [Int.toNat_natCast, Int.toNat_natCast, Vector.toList_setIfInBounds, List.getD, List.getD, List.getElem?_set]
  by_cases e : i = j
  · subst e; rw [if_pos rfl, if_pos rfl, if_pos (by simpa using hi)]; rfl
  · rw [if_neg e, if_neg (fun h => e h.symm)]
theorem vext {a c : Vector Int 4} (h : ∀ j : Nat, j < 4 → vget a (j : Int) = vget c (j : Int)) : a = c := by
  apply Vector.toList_inj.1
  apply List.ext_getElem
  · simp
  · intro j h1 h2
    have hj : j < 4 := by simpa using h1
    have := h j hj
    unfold vget at this
    rw [Int.toNat_natCast, List.getD, List.getD, List.getElem?_eq_getElem h1, List.getElem?_eq_getElem h2] at this
    simpa using this
theorem ext_tb {a c : Vector Int 4} (ha : U a) (hc : U c) (h : ∀ b, b < 256 → tb a b = tb c b) : a = c := by
  apply vext
  intro j hj
  obtain ⟨e1, l1⟩ := wd_eq ha j hj
  obtain ⟨e2, l2⟩ := wd_eq hc j hj
  rw [e1, e2]
  congr 1
  apply Nat.eq_of_testBit_eq
  intro i
  by_cases hi : i < 64
  · have := h (64 * j + i) (by omega)
    unfold tb at this
    rwa [show (64 * j + i) / 64 = j by omega, show (64 * j + i) % 64 = i by omega] at this
  · have hp : 18446744073709551616 ≤ 2 ^ i := Nat.le_trans (by decide : 18446744073709551616 ≤ 2 ^ 64) (Nat.pow_le_pow_right (by omega) (by omega))
    rw [Nat.testBit_lt_two_pow (by omega), Nat.testBit_lt_two_pow (by omega)]
theorem U_zero : U (Vector.replicate 4 (0 : Int)) := by
  intro j hj
  have : vget (Vector.replicate 4 (0 : Int)) (j : Int) = 0 := by
    have : j = 0 ∨ j = 1 ∨ j = 2 ∨ j = 3 := by omega
    rcases this with rfl | rfl | rfl | rfl <;> rfl
  rw [this]; omega
theorem tb_zero (b : Nat) (hb : b < 256) : tb (Vector.replicate 4 (0 : Int)) b = false := by
  have hj : b / 64 < 4 := by omega
  have : vget (Vector.replicate 4 (0 : Int)) ((b / 64 : Nat) : Int) = 0 := by
    generalize b / 64 = j at hj
    have : j = 0 ∨ j = 1 ∨ j = 2 ∨ j = 3 := by omega
    rcases this with rfl | rfl | rfl | rfl <;> rfl
  unfold tb wd
  rw [this]; simp
theorem U_of {a : Vector Int 4} (h : wf33 a) : U a := by
  intro j hj
  have h1 : j < a.toList.length := by simpa using hj
  have h2 := h a.toList[j] (List.getElem_mem h1)
  have e : vget a (j : Int) = a.toList[j] := by
    unfold vget
    rw [Int.toNat_natCast, List.getD, List.getElem?_eq_getElem h1]; rfl
  rw [e]
  have h2' : (Lit.int .u64 a.toList[j]).wf = true := h2
  have : 0 ≤ a.toList[j] ∧ a.toList[j] ≤ 18446744073709551615 := by
    generalize a.toList[j] = z at h2'
    simpa [Lit.wf, show IntKind.u64.min = 0 from rfl, show IntKind.u64.max = 18446744073709551615 from rfl] using h2'
  omega
/-- One bit set in a word. -/
theorem or_bit {w : Nat} (hw : w < 18446744073709551616) {i : Nat} (hi : i < 64) : bits .or .u64 (w : Int) (IntKind.u64.wrap ((1 : Int) * 2 ^ (min i IntKind.u64.bits))) = ((w ||| 2 ^ i : Nat) : Int) ∧ w ||| 2 ^ i < 18446744073709551616 := by
  have hp : (2 : Nat) ^ i < 18446744073709551616 := Nat.lt_of_lt_of_le (Nat.pow_lt_pow_right (by omega) hi) (by decide : 2 ^ 64 ≤ 18446744073709551616)
  have e : IntKind.u64.wrap ((1 : Int) * 2 ^ (min i IntKind.u64.bits)) = ((2 ^ i : Nat) : Int) := by
    rw [show min i IntKind.u64.bits = i by show min i 64 = i; omega]
    have := u64_eq (1 * 2 ^ i)
    unfold u64 at this
    rw [this]
    have e3 : ((1 : Int) * 2 ^ i) = ((2 ^ i : Nat) : Int) := by simp
    rw [e3]
    generalize 2 ^ i = q at hp ⊢
    omega
  rw [e, bits_or_u64_nat w (2 ^ i) hw hp]
  exact ⟨rfl, Nat.or_lt_two_pow (n := 64) hw hp⟩
/-- A byte put into a set. -/
theorem put_bit {a : Vector Int 4} (h : U a) {b : Nat} (hb : b < 256) : ∀ c, c = vset a ((b / 64 : Nat) : Int) (bits .or .u64 (vget a ((b / 64 : Nat) : Int)) (IntKind.u64.wrap ((1 : Int) * 2 ^ (min (b % 64) IntKind.u64.bits)))) → U c ∧ ∀ x, x < 256 → tb c x = (tb a x || decide (x = b)) := by
  rintro c rfl
  have hj : b / 64 < 4 := by omega
  obtain ⟨e, l⟩ := wd_eq h (b / 64) hj
  obtain ⟨o1, o2⟩ := or_bit l (i := b % 64) (by omega)
  rw [e, o1]
  constructor
  · intro j hj'
    rw [vget_vset _ _ _ _ hj hj']
    split
    · omega
    · exact h j hj'
  · intro x hx
    unfold tb wd
    rw [vget_vset _ _ _ _ hj (by omega)]
    by_cases q : x / 64 = b / 64
    · rw [if_pos q, Int.toNat_natCast, Nat.testBit_or, Nat.testBit_two_pow, q]
      congr 1
      rw [decide_eq_decide]; omega
    · rw [if_neg q]
      have : decide (x = b) = false := decide_eq_false (fun e => q (by rw [e]))
      rw [this, Bool.or_false]
theorem shr_eq (x k : Nat) (hk : k ≤ 64) : Int.fdiv (x : Int) (2 ^ (min (k : Int).toNat IntKind.u64.bits)) = ((x / 2 ^ k : Nat) : Int) := by
  rw [Int.toNat_natCast, show min k IntKind.u64.bits = k by show min k 64 = k; omega, Int.fdiv_eq_ediv_of_nonneg _ (by exact_mod_cast Nat.zero_le _)]
  norm_cast
theorem ix_i64 (i : Nat) (hi : i < 100000) : IntKind.i64.wrap ((i : Int).tdiv 64) = ((i / 64 : Nat) : Int) := by
  have h1 : (i : Int).tdiv 64 = ((i / 64 : Nat) : Int) := by rw [Int.tdiv_eq_ediv_of_nonneg (by omega)]; omega
  rw [h1]; have := w64_id (n := ((i / 64 : Nat) : Int)) (by omega) (by omega); exact this
theorem ix_u64 (i : Nat) (hi : i < 100000) : u64 ((i : Int).tmod 64) = ((i % 64 : Nat) : Int) := by
  have h1 : (i : Int).tmod 64 = ((i % 64 : Nat) : Int) := by rw [Int.tmod_eq_emod_of_nonneg (by omega)]; omega
  rw [h1, u64_eq]; omega
theorem tmod64 (i : Nat) : (i : Int).tmod 64 = ((i % 64 : Nat) : Int) := by rw [Int.tmod_eq_emod_of_nonneg (by omega)]; omega
theorem ix_u8 (i : Nat) (hi : i < 256) : IntKind.u8.wrap ((i : Int).tdiv 64) = ((i / 64 : Nat) : Int) := by
  have h1 : (i : Int).tdiv 64 = ((i / 64 : Nat) : Int) := by rw [Int.tdiv_eq_ediv_of_nonneg (by omega)]; omega
  rw [h1]; have := w8_id (n := ((i / 64 : Nat) : Int)) (by omega) (by omega); exact this
theorem rhas_l (x : Nat) (hx : x < 256) : ∀ (m i fuel : Nat) (w : Nat), i + m = x % 64 → m < fuel → w < 18446744073709551616 →
    bosketref02_Has_l1 2000 (x : Int) fuel (w : Int) (i : Int) = some (w.testBit m)
  | 0, i, f + 1, w, h, _, hw => by
    rw [bosketref02_Has_l1.eq_2, tmod64, if_neg (by omega), bosketref02_Has_c0, Nat.testBit_zero]
    congr 1
    rw [decide_eq_decide, Int.tmod_eq_emod_of_nonneg (by omega)]; omega
  | m + 1, i, f + 1, w, h, hf, hw => by
    have e : IntKind.u64.wrap ((w : Int).tdiv 2) = ((w / 2 : Nat) : Int) := by
      rw [Int.tdiv_eq_ediv_of_nonneg (by omega)]
      have := u64_eq ((w : Int) / 2)
      unfold u64 at this
      rw [this]; omega
    rw [bosketref02_Has_l1.eq_2, tmod64, if_pos (by omega), e, w64_id (by omega) (by omega)]
    have := rhas_l x hx m (i + 1) f (w / 2) (by omega) (by omega) (by omega)
    rw [Nat.testBit_succ]
    exact_mod_cast this
theorem rhas_eq {a : Vector Int 4} (ha : U a) {x : Nat} (hx : x < 256) : bosketref02_Has 2000 a (x : Int) = some (tb a x) := by
  obtain ⟨e, l⟩ := wd_eq ha (x / 64) (by omega)
  unfold bosketref02_Has
  rw [ix_i64 x (by omega), if_pos ⟨by omega, by omega⟩, e]
  have := rhas_l x hx (x % 64) 0 2000 (wd a (x / 64)) (by omega) (by omega) l
  exact this
theorem has_eq {a : Vector Int 4} (ha : U a) {x : Nat} (hx : x < 256) : byteset_Has 2000 a (x : Int) = some (tb a x) := by
  obtain ⟨e, l⟩ := wd_eq ha (x / 64) (by omega)
  unfold byteset_Has
  rw [ix_u8 x hx, tmod64, if_pos ⟨by omega, by omega⟩, if_pos (by omega), e, shr_eq _ (x % 64) (by omega)]
  have hb := bits_and_u64_nat (wd a (x / 64) / 2 ^ (x % 64)) 1 (Nat.lt_of_le_of_lt (Nat.div_le_self _ _) l) (by omega)
  have hb' : bits .and .u64 ((wd a (x / 64) / 2 ^ (x % 64) : Nat) : Int) 1 = _ := hb
  rw [hb']
  unfold tb
  congr 1
  rw [Nat.and_one_is_mod]
  have h2 : (wd a (x / 64)).testBit (x % 64) = (wd a (x / 64) / 2 ^ (x % 64)).testBit 0 := by
    rw [Nat.testBit_div_two_pow, Nat.zero_add]
  rw [h2, Nat.testBit_zero, decide_eq_decide]
  omega
end Go.Avl.T3
/- Machines that may be in several states: what both answer, as plain lists. -/
namespace Go.Avl.T3
open Go Go.RowKit Go.Proofs Go.Avl
set_option linter.all false
set_option maxRecDepth 10000

theorem lget_lt {α : Type} [Inhabited α] (l : List α) (i : Nat) (h : i < l.length) : lget l (i : Int) = l[i] := by simp [lget, List.getD, List.getElem?_eq_getElem h]
theorem lset_len {α : Type} (l : List α) (i : Int) (x : α) : (lset l i x).length = l.length := by simp [lset]
def NN (n : S24) : Nat := n.f0.toNat
/-- May an edge be? -/
def edB (n : S24) (e : S35) : Bool := decide (0 ≤ e.f0 ∧ e.f0 < n.f0 ∧ 0 ≤ e.f1 ∧ e.f1 < n.f0)
def rt0 (n : S24) : Bool := decide (0 ≤ n.f2 ∧ n.f2 < n.f0 ∧ 0 ≤ n.f3 ∧ n.f3 < n.f0)
def rtB (n : S24) : Bool := rt0 n && n.f1.all (edB n)
theorem rright_l (n : S24) (hl : n.f1.length ≤ 1000) : ∀ (d i m : Nat) (b : Bool), i + d = n.f1.length → d < m → bosketref06_Right_l1 2000 n m b (i : Int) = some (b && (n.f1.drop i).all (edB n))
  | 0, i, m + 1, b, hi, _ => by
    rw [bosketref06_Right_l1.eq_2, if_neg (by omega), bosketref06_Right_c0, List.drop_of_length_le (by omega)]; simp
  | d + 1, i, m + 1, b, hi, hm => by
    have hi' : i < n.f1.length := by omega
    have g : 0 ≤ (i : Int) ∧ (i : Int) < (n.f1.length : Int) := ⟨by omega, by omega⟩
    have ih := fun b => rright_l n hl d (i + 1) m b (by omega) (by omega)
    rw [bosketref06_Right_l1.eq_2, if_pos g.2, if_pos g, lget_lt _ i hi', List.drop_eq_getElem_cons hi', w64_id (by omega) (by omega), show (i : Int) + 1 = ((i + 1 : Nat) : Int) by omega]
    have key : (if b = true then if (0 : Int) ≤ n.f1[i].f0 then if n.f1[i].f0 < n.f0 then if (0 : Int) ≤ n.f1[i].f1 then some (decide (n.f1[i].f1 < n.f0)) else some false else some false else some false else some false) = some (b && edB n n.f1[i]) := by
      unfold edB
      cases b with
      | false => simp
      | true =>
        rw [if_pos rfl]
        by_cases a1 : (0 : Int) ≤ n.f1[i].f0
        · rw [if_pos a1]
          by_cases a2 : n.f1[i].f0 < n.f0
          · rw [if_pos a2]
            by_cases a3 : (0 : Int) ≤ n.f1[i].f1
            · rw [if_pos a3]; simp [a1, a2, a3]
            · rw [if_neg a3]; simp [a3]
          · rw [if_neg a2]; simp [a2]
        · rw [if_neg a1]; simp [a1]
    rw [key, Option.bind_some, ih, List.all_cons, Bool.and_assoc]
theorem rright_eq (n : S24) (hl : n.f1.length ≤ 1000) : bosketref06_Right 2000 n = some (rtB n) := by
  unfold bosketref06_Right rtB rt0
  have key : (if (0 : Int) ≤ n.f2 then if n.f2 < n.f0 then if (0 : Int) ≤ n.f3 then some (decide (n.f3 < n.f0)) else some false else some false else some false) = some (decide (0 ≤ n.f2 ∧ n.f2 < n.f0 ∧ 0 ≤ n.f3 ∧ n.f3 < n.f0)) := by
    by_cases a1 : (0 : Int) ≤ n.f2
    · rw [if_pos a1]
      by_cases a2 : n.f2 < n.f0
      · rw [if_pos a2]
        by_cases a3 : (0 : Int) ≤ n.f3
        · rw [if_pos a3]; simp [a1, a2, a3]
        · rw [if_neg a3]; simp [a3]
      · rw [if_neg a2]; simp [a2]
    · rw [if_neg a1]; simp [a1]
  have := rright_l n hl n.f1.length 0 2000 (decide (0 ≤ n.f2 ∧ n.f2 < n.f0 ∧ 0 ≤ n.f3 ∧ n.f3 < n.f0)) (by omega) (by omega)
  rw [key, Option.bind_some]
  simpa using this
theorem right_l (n : S24) (hl : n.f1.length ≤ 1000) : ∀ (d i m : Nat), i + d = n.f1.length → d < m → nfa_Right_l1 2000 n m (i : Int) = some ((n.f1.drop i).all (edB n))
  | 0, i, m + 1, hi, _ => by
    rw [nfa_Right_l1.eq_2, if_neg (by omega), nfa_Right_c0, List.drop_of_length_le (by omega)]; simp
  | d + 1, i, m + 1, hi, hm => by
    have hi' : i < n.f1.length := by omega
    have g : 0 ≤ (i : Int) ∧ (i : Int) < (n.f1.length : Int) := ⟨by omega, by omega⟩
    have ih := right_l n hl d (i + 1) m (by omega) (by omega)
    rw [nfa_Right_l1.eq_2, if_pos g.2, if_pos g, lget_lt _ i hi', List.drop_eq_getElem_cons hi', w64_id (by omega) (by omega), show (i : Int) + 1 = ((i + 1 : Nat) : Int) by omega, ih]
    have key : (if n.f1[i].f0 < (0 : Int) then some true else if n.f0 ≤ n.f1[i].f0 then some true else if n.f1[i].f1 < (0 : Int) then some true else some (decide (n.f0 ≤ n.f1[i].f1))) = some (!edB n n.f1[i]) := by
      unfold edB
      by_cases a1 : n.f1[i].f0 < (0 : Int)
      · rw [if_pos a1, decide_eq_false (by omega)]; rfl
      · rw [if_neg a1]
        by_cases a2 : n.f0 ≤ n.f1[i].f0
        · rw [if_pos a2, decide_eq_false (by omega)]; rfl
        · rw [if_neg a2]
          by_cases a3 : n.f1[i].f1 < (0 : Int)
          · rw [if_pos a3, decide_eq_false (by omega)]; rfl
          · rw [if_neg a3]
            by_cases a4 : n.f0 ≤ n.f1[i].f1
            · rw [decide_eq_true a4, decide_eq_false (by omega)]; rfl
            · rw [decide_eq_false a4, decide_eq_true (by omega)]; rfl
    rw [key, Option.bind_some, List.all_cons]
    cases edB n n.f1[i]
    · rw [if_pos (by decide)]; rfl
    · rw [if_neg (by decide), Bool.true_and]
theorem right_eq (n : S24) (hl : n.f1.length ≤ 1000) : nfa_Right 2000 n = some (rtB n) := by
  unfold nfa_Right rtB rt0
  have key : (if n.f2 < (0 : Int) then some true else if n.f0 ≤ n.f2 then some true else if n.f3 < (0 : Int) then some true else some (decide (n.f0 ≤ n.f3))) = some (!decide (0 ≤ n.f2 ∧ n.f2 < n.f0 ∧ 0 ≤ n.f3 ∧ n.f3 < n.f0)) := by
    by_cases a1 : n.f2 < (0 : Int)
    · rw [if_pos a1, decide_eq_false (by omega)]; rfl
    · rw [if_neg a1]
      by_cases a2 : n.f0 ≤ n.f2
      · rw [if_pos a2, decide_eq_false (by omega)]; rfl
      · rw [if_neg a2]
        by_cases a3 : n.f3 < (0 : Int)
        · rw [if_pos a3, decide_eq_false (by omega)]; rfl
        · rw [if_neg a3]
          by_cases a4 : n.f0 ≤ n.f3
          · rw [decide_eq_true a4, decide_eq_false (by omega)]; rfl
          · rw [decide_eq_false a4, decide_eq_true (by omega)]; rfl
  have := right_l n hl n.f1.length 0 2000 (by omega) (by omega)
  rw [key, Option.bind_some]
  cases decide (0 ≤ n.f2 ∧ n.f2 < n.f0 ∧ 0 ≤ n.f3 ∧ n.f3 < n.f0)
  · rfl
  · simpa using this

/-- A machine whose states are all there, not too large. -/
structure Rt (n : S24) : Prop where
  first : 0 ≤ n.f2 ∧ n.f2 < n.f0
  last : 0 ≤ n.f3 ∧ n.f3 < n.f0
  ed : ∀ e ∈ n.f1, 0 ≤ e.f0 ∧ e.f0 < n.f0 ∧ 0 ≤ e.f1 ∧ e.f1 < n.f0
  n1 : n.f0 ≤ 1000
  n2 : n.f1.length ≤ 1000
  u : ∀ e ∈ n.f1, U e.f2
theorem rt_of {n : S24} (h : rtB n = true) (h1 : n.f0 ≤ 1000) (h2 : n.f1.length ≤ 1000) (h3 : ∀ e ∈ n.f1, U e.f2) : Rt n := by
  simp only [rtB, rt0, Bool.and_eq_true, decide_eq_true_eq, List.all_eq_true, edB] at h
  exact ⟨⟨h.1.1, h.1.2.1⟩, h.1.2.2, h.2, h1, h2, h3⟩
theorem Rt.nn {n : S24} (h : Rt n) : ((NN n : Nat) : Int) = n.f0 := by have := h.first; unfold NN; omega
theorem Rt.rt {n : S24} (h : Rt n) : rtB n = true := by
  simp only [rtB, rt0, Bool.and_eq_true, decide_eq_true_eq, List.all_eq_true, edB]
  exact ⟨⟨h.first.1, h.first.2, h.last⟩, h.ed⟩

/-! Free edges. -/
def st1 (s : List Bool × Bool) (e : S35) : List Bool × Bool := if e.f3 = true ∧ lget s.1 e.f0 = true ∧ lget s.1 e.f1 = false then (lset s.1 e.f1 true, true) else s
def pass (l : List S35) (s : List Bool × Bool) : List Bool × Bool := l.foldl st1 s
theorem st1_len (s : List Bool × Bool) (e : S35) : (st1 s e).1.length = s.1.length := by
  unfold st1; split
  · exact lset_len _ _ _
  · rfl
theorem pass_len : ∀ (l : List S35) (s : List Bool × Bool), (pass l s).1.length = s.1.length
  | [], s => rfl
  | e :: l, s => by
    show (pass l (st1 s e)).1.length = _
    rw [pass_len l, st1_len]
theorem guard22 {x : List Bool} {e : S35} (N : Nat) (hx : x.length = N) (he : 0 ≤ e.f0 ∧ e.f0 < (N : Int) ∧ 0 ≤ e.f1 ∧ e.f1 < (N : Int)) :
    (if e.f3 = true then if 0 ≤ e.f0 ∧ e.f0 < (x.length : Int) then if (lget x e.f0) = true then if 0 ≤ e.f1 ∧ e.f1 < (x.length : Int) then some (!(lget x e.f1)) else none else some false else none else some false) = some (decide (e.f3 = true ∧ lget x e.f0 = true ∧ lget x e.f1 = false)) := by
  have g0 : 0 ≤ e.f0 ∧ e.f0 < (x.length : Int) := ⟨he.1, by omega⟩
  have g1 : 0 ≤ e.f1 ∧ e.f1 < (x.length : Int) := ⟨he.2.2.1, by omega⟩
  rw [if_pos g0, if_pos g1]
  cases e.f3 <;> cases lget x e.f0 <;> cases lget x e.f1 <;> simp
theorem close_l2 {n : S24} (h : Rt n) (rec9 : List Bool → Bool → Option (List Bool)) : ∀ (d i m : Nat) (x : List Bool) (b : Bool), i + d = n.f1.length → d < m → x.length = NN n →
    nfa_Close_l2 2000 rec9 n m x b (i : Int) = rec9 (pass (n.f1.drop i) (x, b)).1 (pass (n.f1.drop i) (x, b)).2
  | 0, i, m + 1, x, b, hi, _, hx => by
    rw [nfa_Close_l2.eq_2, if_neg (by omega), List.drop_of_length_le (by omega)]; rfl
  | d + 1, i, m + 1, x, b, hi, hm, hx => by
    have hi' : i < n.f1.length := by omega
    have g : 0 ≤ (i : Int) ∧ (i : Int) < (n.f1.length : Int) := ⟨by omega, by omega⟩
    have he := h.ed n.f1[i] (List.getElem_mem hi')
    have hN := h.n2
    have hf := h.first
    have hnn := h.nn
    rw [nfa_Close_l2.eq_2, if_pos g.2, if_pos g, lget_lt _ i hi', List.drop_eq_getElem_cons hi', guard22 (NN n) hx ⟨he.1, by have := he.2.1; omega, he.2.2.1, by have := he.2.2.2; omega⟩, Option.bind_some]
    show _ = rec9 (pass (n.f1.drop (i + 1)) (st1 (x, b) n.f1[i])).1 (pass (n.f1.drop (i + 1)) (st1 (x, b) n.f1[i])).2
    unfold st1
    by_cases q : n.f1[i].f3 = true ∧ lget x n.f1[i].f0 = true ∧ lget x n.f1[i].f1 = false
    · rw [if_pos (decide_eq_true q), if_pos q, if_pos ⟨he.2.2.1, by have := he.2.2.2; omega⟩, nfa_Close_c1, w64_id (by omega) (by omega)]
      have ih := close_l2 h rec9 d (i + 1) m (lset x n.f1[i].f1 true) true (by omega) (by omega) (by rw [lset_len, hx])
      exact_mod_cast ih
    · rw [if_neg (by simpa using q), if_neg q, nfa_Close_c1, w64_id (by omega) (by omega)]
      have ih := close_l2 h rec9 d (i + 1) m x b (by omega) (by omega) hx
      exact_mod_cast ih
theorem rclose_l4 {n : S24} (h : Rt n) (rec10 : List Bool → Int → Option (List Bool)) (x9 : Int) : ∀ (d i m : Nat) (x : List Bool) (b : Bool), i + d = n.f1.length → d < m → x.length = NN n →
    bosketref06_Close_l4 2000 rec10 n x9 m x b (i : Int) = bosketref06_Close_c2 2000 rec10 x9 (pass (n.f1.drop i) (x, b)).1 (pass (n.f1.drop i) (x, b)).2
  | 0, i, m + 1, x, b, hi, _, hx => by
    rw [bosketref06_Close_l4.eq_2, if_neg (by omega), List.drop_of_length_le (by omega)]; rfl
  | d + 1, i, m + 1, x, b, hi, hm, hx => by
    have hi' : i < n.f1.length := by omega
    have g : 0 ≤ (i : Int) ∧ (i : Int) < (n.f1.length : Int) := ⟨by omega, by omega⟩
    have he := h.ed n.f1[i] (List.getElem_mem hi')
    have hN := h.n2
    have hf := h.first
    have hnn := h.nn
    rw [bosketref06_Close_l4.eq_2, if_pos g.2, if_pos g, lget_lt _ i hi', List.drop_eq_getElem_cons hi', guard22 (NN n) hx ⟨he.1, by have := he.2.1; omega, he.2.2.1, by have := he.2.2.2; omega⟩, Option.bind_some]
    show _ = bosketref06_Close_c2 2000 rec10 x9 (pass (n.f1.drop (i + 1)) (st1 (x, b) n.f1[i])).1 (pass (n.f1.drop (i + 1)) (st1 (x, b) n.f1[i])).2
    unfold st1
    by_cases q : n.f1[i].f3 = true ∧ lget x n.f1[i].f0 = true ∧ lget x n.f1[i].f1 = false
    · rw [if_pos (decide_eq_true q), if_pos q, if_pos ⟨he.2.2.1, by have := he.2.2.2; omega⟩, bosketref06_Close_c3, w64_id (by omega) (by omega)]
      have ih := rclose_l4 h rec10 x9 d (i + 1) m (lset x n.f1[i].f1 true) true (by omega) (by omega) (by rw [lset_len, hx])
      exact_mod_cast ih
    · rw [if_neg (by simpa using q), if_neg q, bosketref06_Close_c3, w64_id (by omega) (by omega)]
      have ih := rclose_l4 h rec10 x9 d (i + 1) m x b (by omega) (by omega) hx
      exact_mod_cast ih
/-- How many states. -/
def cnt (x : List Bool) : Nat := x.count true
theorem cnt_le (x : List Bool) : cnt x ≤ x.length := List.count_le_length
theorem cnt_set : ∀ (x : List Bool) (i : Nat), i < x.length → x[i]? = some false → cnt (x.set i true) = cnt x + 1
  | b :: x, 0, _, h => by simp at h; subst h; simp [cnt]
  | b :: x, i + 1, hi, h => by
    have := cnt_set x i (by simpa using hi) (by simpa using h)
    simp only [cnt, List.set_cons_succ, List.count_cons] at this ⊢
    omega
theorem st1_cnt (s : List Bool × Bool) (e : S35) (he : 0 ≤ e.f1 ∧ e.f1 < (s.1.length : Int)) : st1 s e = s ∨ ((st1 s e).2 = true ∧ cnt (st1 s e).1 = cnt s.1 + 1) := by
  unfold st1
  split
  · rename_i q
    refine .inr ⟨rfl, ?_⟩
    have hi : e.f1.toNat < s.1.length := by omega
    refine cnt_set s.1 e.f1.toNat hi ?_
    have := q.2.2
    unfold lget at this
    rw [List.getD, List.getElem?_eq_getElem hi] at this
    rw [List.getElem?_eq_getElem hi]; simpa using this
  · exact .inl rfl
theorem pass_cnt (N : Int) : ∀ (l : List S35) (s : List Bool × Bool), (∀ e ∈ l, 0 ≤ e.f1 ∧ e.f1 < N) → (s.1.length : Int) = N → pass l s = s ∨ ((pass l s).2 = true ∧ cnt s.1 < cnt (pass l s).1)
  | [], s, _, _ => .inl rfl
  | e :: l, s, h, hs => by
    have ih := pass_cnt N l (st1 s e) (fun e' h' => h e' (by simp [h'])) (by rw [st1_len]; exact hs)
    show pass l (st1 s e) = s ∨ ((pass l (st1 s e)).2 = true ∧ cnt s.1 < cnt (pass l (st1 s e)).1)
    rcases st1_cnt s e (by rw [hs]; exact h e (by simp)) with q | ⟨q1, q2⟩
    · rw [q] at ih ⊢; exact ih
    · rcases ih with r | ⟨r1, r2⟩
      · rw [r]; exact .inr ⟨q1, by omega⟩
      · exact .inr ⟨r1, by omega⟩
/-- Round after round, as long as some state is new. -/
def cl (l : List S35) : Nat → List Bool → List Bool
  | 0, x => x
  | k + 1, x => if (pass l (x, false)).2 = true then cl l k (pass l (x, false)).1 else (pass l (x, false)).1
theorem cl_len (l : List S35) : ∀ (k : Nat) (x : List Bool), (cl l k x).length = x.length
  | 0, _ => rfl
  | k + 1, x => by
    rw [cl]; split
    · rw [cl_len l k, pass_len]
    · rw [pass_len]
theorem cl_more {n : S24} (h : Rt n) : ∀ (j : Nat) (x : List Bool), x.length = NN n → NN n - cnt x < j → cl n.f1 j x = cl n.f1 (j + 1) x
  | 0, x, _, h => by omega
  | j + 1, x, hx, hj => by
    rw [cl, cl]
    split
    · rename_i q
      have hp := pass_len n.f1 (x, false)
      have hle := cnt_le (pass n.f1 (x, false)).1
      have hf := h.first
      have hnn := h.nn
      rcases pass_cnt n.f0 n.f1 (x, false) (fun e he => ⟨(h.ed e he).2.2.1, (h.ed e he).2.2.2⟩) (by show (x.length : Int) = _; omega) with r | ⟨_, r⟩
      · rw [r] at q; cases q
      · have r' : cnt x < cnt (pass n.f1 (x, false)).1 := r
        have hp' : (pass n.f1 (x, false)).1.length = x.length := hp
        exact cl_more h j _ (hp'.trans hx) (by rw [hp'] at hle; omega)
    · rfl
/-- All that free edges lead to. -/
def CL (n : S24) (x : List Bool) : List Bool := cl n.f1 (NN n + 1) x
theorem CL_len (n : S24) (x : List Bool) : (CL n x).length = x.length := cl_len _ _ _
theorem cl_CL {n : S24} (h : Rt n) {x : List Bool} (hx : x.length = NN n) : ∀ {j : Nat}, NN n - cnt x < j → cl n.f1 j x = CL n x := by
  have up : ∀ (d j : Nat), NN n - cnt x < j → cl n.f1 j x = cl n.f1 (j + d) x := by
    intro d
    induction d with
    | zero => intro j _; rfl
    | succ d ih => intro j hj; rw [ih j hj, cl_more h (j + d) x hx (by omega)]; rfl
  intro j hj
  unfold CL
  rcases Nat.le_total j (NN n + 1) with q | q
  · have := up (NN n + 1 - j) j hj; rwa [show j + (NN n + 1 - j) = NN n + 1 by omega] at this
  · have := up (j - (NN n + 1)) (NN n + 1) (by omega); rw [show NN n + 1 + (j - (NN n + 1)) = j by omega] at this; exact this.symm
theorem pass_zero : ∀ (l : List S35) (x : List Bool) (b : Bool), cnt x = 0 → pass l (x, b) = (x, b)
  | [], _, _, _ => rfl
  | e :: l, x, b, h => by
    have : st1 (x, b) e = (x, b) := by
      unfold st1
      rw [if_neg]
      rintro ⟨_, q, _⟩
      have hm : true ∈ x := by
        simp only [lget, List.getD] at q
        cases hx : x[e.f0.toNat]? with
        | none => rw [hx] at q; cases q
        | some b => rw [hx] at q; simp at q; subst q; exact List.mem_of_getElem? hx
      have := List.count_pos_iff.2 hm
      unfold cnt at h; omega
    show pass l (st1 (x, b) e) = _
    rw [this, pass_zero l x b h]
theorem cl_N {n : S24} (h : Rt n) {x : List Bool} (hx : x.length = NN n) : cl n.f1 (NN n) x = CL n x := by
  by_cases q : cnt x = 0
  · have z : ∀ k, cl n.f1 k x = x := by
      intro k
      cases k with
      | zero => rfl
      | succ k => rw [cl, pass_zero n.f1 x false q, if_neg (fun e => Bool.noConfusion e)]
    unfold CL; rw [z, z]
  · have := h.first
    have hnn := h.nn
    exact cl_CL h hx (by omega)
theorem close_l3 {n : S24} (h : Rt n) : ∀ (m : Nat) (x : List Bool), x.length = NN n → NN n - cnt x + 1 < m → nfa_Close_l3 2000 n m x true = some (cl n.f1 m x)
  | m + 1, x, hx, hm => by
    have h2 := h.n2
    rw [nfa_Close_l3.eq_2, if_pos rfl]
    have e := close_l2 h (nfa_Close_l3 2000 n m) n.f1.length 0 2000 x false (by omega) (by omega) hx
    rw [Int.natCast_zero, List.drop_zero] at e
    rw [e, cl]
    have hp := pass_len n.f1 (x, false)
    have hp' : (pass n.f1 (x, false)).1.length = x.length := hp
    by_cases q : (pass n.f1 (x, false)).2 = true
    · rw [if_pos q, q]
      have hf := h.first
      have hnn := h.nn
      have hle := cnt_le (pass n.f1 (x, false)).1
      rcases pass_cnt n.f0 n.f1 (x, false) (fun e he => ⟨(h.ed e he).2.2.1, (h.ed e he).2.2.2⟩) (by show (x.length : Int) = _; omega) with r | ⟨_, r⟩
      · rw [r] at q; cases q
      · have r' : cnt x < cnt (pass n.f1 (x, false)).1 := r
        exact close_l3 h m _ (hp'.trans hx) (by rw [hp'] at hle; omega)
    · rw [if_neg q]
      cases m with
      | zero => omega
      | succ m => rw [nfa_Close_l3.eq_2, if_neg q, nfa_Close_c0]
/-- The states handed on: so many, those that lack are none. -/
def ini (n : S24) (x : List Bool) : List Bool := lcopy (List.replicate (NN n) false) x
theorem ini_len (n : S24) (x : List Bool) : (ini n x).length = NN n := by unfold ini; rw [lcopy_len, List.length_replicate]
theorem ini_self {n : S24} {x : List Bool} (hx : x.length = NN n) : ini n x = x := by
  unfold ini lcopy
  rw [List.length_replicate, List.take_of_length_le (by omega), List.drop_of_length_le (by simp; omega), List.append_nil]
theorem close_eq {n : S24} (h : Rt n) (x : List Bool) : nfa_Close 2000 n x = some (CL n (ini n x)) := by
  have h1 := h.n1
  have hf := h.first
  have hnn := h.nn
  unfold nfa_Close
  rw [show n.f0.toNat = NN n from rfl]
  rw [if_pos ⟨by omega, by omega, by omega⟩]
  show nfa_Close_l3 2000 n 2000 (ini n x) true = _
  rw [close_l3 h 2000 _ (ini_len n x) (by omega), cl_CL h (ini_len n x) (by omega)]
theorem rclose_l5 {n : S24} (h : Rt n) : ∀ (r i m : Nat) (x : List Bool), x.length = NN n → i + r = NN n → r < m → bosketref06_Close_l5 2000 n m x (i : Int) = some (cl n.f1 r x)
  | 0, i, m + 1, x, hx, hi, hm => by
    have hf := h.first
    have hnn := h.nn
    rw [bosketref06_Close_l5.eq_2, if_neg (by omega), bosketref06_Close_c0]; rfl
  | r + 1, i, m + 1, x, hx, hi, hm => by
    have h2 := h.n2
    have h1 := h.n1
    have hf := h.first
    have hnn := h.nn
    rw [bosketref06_Close_l5.eq_2, if_pos (by omega)]
    have e := rclose_l4 h (bosketref06_Close_l5 2000 n m) (i : Int) n.f1.length 0 2000 x false (by omega) (by omega) hx
    rw [Int.natCast_zero, List.drop_zero] at e
    rw [e, cl, bosketref06_Close_c2]
    have hp : (pass n.f1 (x, false)).1.length = x.length := pass_len n.f1 (x, false)
    by_cases q : (pass n.f1 (x, false)).2 = true
    · rw [if_neg (by simp [q]), if_pos q, bosketref06_Close_c1, w64_id (by omega) (by omega)]
      have ih := rclose_l5 h r (i + 1) m (pass n.f1 (x, false)).1 (by omega) (by omega) (by omega)
      exact_mod_cast ih
    · rw [if_pos (by simpa using q), if_neg q]
theorem rclose_l7 {n : S24} (h : Rt n) (p : List Bool) (hp : p.length ≤ 1000) : ∀ (d i m : Nat), i + d = min (NN n) p.length → d < m →
    bosketref06_Close_l7 2000 n p m (p.take i ++ List.replicate (NN n - i) false) (i : Int) = bosketref06_Close_c6 2000 n (ini n p)
  | 0, i, m + 1, hi, hm => by
    have hf := h.first
    have hnn := h.nn
    rw [bosketref06_Close_l7.eq_2]
    have e : p.take i ++ List.replicate (NN n - i) false = ini n p := by
      unfold ini lcopy
      rw [List.length_replicate, List.drop_replicate]
      by_cases q : p.length ≤ NN n
      · rw [List.take_of_length_le (by omega), List.take_of_length_le (by omega), show NN n - i = NN n - p.length by omega]
      · rw [show i = NN n by omega, Nat.sub_self, show NN n - p.length = 0 by omega]
    by_cases q : (i : Int) < n.f0
    · rw [if_pos q, Option.bind_some, if_neg (by simp; omega), e]
    · rw [if_neg q, Option.bind_some, if_neg (by decide), e]
  | d + 1, i, m + 1, hi, hm => by
    have hf := h.first
    have hnn := h.nn
    have h1 := h.n1
    have hi' : i < p.length := by omega
    have hlen : (p.take i ++ List.replicate (NN n - i) false).length = NN n := by simp; omega
    rw [bosketref06_Close_l7.eq_2, if_pos (by omega), Option.bind_some, if_pos (by simp; omega), if_pos ⟨by omega, by omega⟩, if_pos ⟨by omega, by rw [hlen]; omega⟩, lget_lt p i hi', w64_id (by omega) (by omega)]
    have e : lset (p.take i ++ List.replicate (NN n - i) false) (i : Int) p[i] = p.take (i + 1) ++ List.replicate (NN n - (i + 1)) false := by
      unfold lset
      rw [Int.toNat_natCast, List.set_append_right _ _ (by simp; omega), show (i - (p.take i).length) = 0 by simp; omega, show NN n - i = (NN n - (i + 1)) + 1 by omega, List.replicate_succ, List.set_cons_zero, ← List.take_append_getElem hi', List.append_assoc]; rfl
    rw [e]
    have ih := rclose_l7 h p hp d (i + 1) m (by omega) (by omega)
    exact_mod_cast ih
theorem rclose_eq {n : S24} (h : Rt n) (x : List Bool) (hx : x.length ≤ 1000) : bosketref06_Close 2000 n x = some (CL n (ini n x)) := by
  have h1 := h.n1
  have hf := h.first
  have hnn := h.nn
  unfold bosketref06_Close
  rw [show n.f0.toNat = NN n from rfl]
  rw [if_pos ⟨by omega, by omega, by omega⟩]
  have e := rclose_l7 h x hx (min (NN n) x.length) 0 2000 (by omega) (by omega)
  rw [Int.natCast_zero, List.take_zero, List.nil_append, Nat.sub_zero] at e
  rw [e, bosketref06_Close_c6]
  have e2 := rclose_l5 h (NN n) 0 2000 (ini n x) (ini_len n x) (by omega) (by omega)
  rw [Int.natCast_zero] at e2
  rw [e2, cl_N h (ini_len n x)]
/-! By a byte. -/
def mv1 (x : List Bool) (b : Nat) (o : List Bool) (e : S35) : List Bool := if e.f3 = false ∧ e.f0 < (x.length : Int) ∧ lget x e.f0 = true ∧ tb e.f2 b = true then lset o e.f1 true else o
def MV (n : S24) (x : List Bool) (b : Nat) : List Bool := n.f1.foldl (mv1 x b) (List.replicate (NN n) false)
theorem mv1_len (x : List Bool) (b : Nat) (o : List Bool) (e : S35) : (mv1 x b o e).length = o.length := by
  unfold mv1; split
  · exact lset_len _ _ _
  · rfl
theorem mvf_len (x : List Bool) (b : Nat) : ∀ (l : List S35) (o : List Bool), (l.foldl (mv1 x b) o).length = o.length
  | [], _ => rfl
  | e :: l, o => by rw [List.foldl_cons, mvf_len x b l, mv1_len]
theorem MV_len (n : S24) (x : List Bool) (b : Nat) : (MV n x b).length = NN n := by unfold MV; rw [mvf_len, List.length_replicate]
theorem guard16 {x : List Bool} {e : S35} {t : Option Bool} {b : Nat} (he : 0 ≤ e.f0) (ht : t = some (tb e.f2 b)) :
    (if (!(e.f3)) = true then if e.f0 < (x.length : Int) then if 0 ≤ e.f0 ∧ e.f0 < (x.length : Int) then if (lget x e.f0) = true then t.bind fun t22 => some (t22) else some (false) else none else some (false) else some (false)) = some (decide (e.f3 = false ∧ e.f0 < (x.length : Int) ∧ lget x e.f0 = true ∧ tb e.f2 b = true)) := by
  subst ht
  by_cases q : e.f0 < (x.length : Int)
  · cases e.f3 <;> cases lget x e.f0 <;> simp [q, he]
  · cases e.f3 <;> simp [q]
theorem move_l {n : S24} (h : Rt n) (x : List Bool) {b : Nat} (hb : b < 256) : ∀ (d i m : Nat) (o : List Bool), i + d = n.f1.length → d < m → o.length = NN n →
    nfa_Move_l2 2000 n x (b : Int) m o (i : Int) = some ((n.f1.drop i).foldl (mv1 x b) o)
  | 0, i, m + 1, o, hi, _, ho => by
    rw [nfa_Move_l2.eq_2, if_neg (by omega), List.drop_of_length_le (by omega), nfa_Move_c0]; rfl
  | d + 1, i, m + 1, o, hi, hm, ho => by
    have hi' : i < n.f1.length := by omega
    have g : 0 ≤ (i : Int) ∧ (i : Int) < (n.f1.length : Int) := ⟨by omega, by omega⟩
    have he := h.ed n.f1[i] (List.getElem_mem hi')
    have hN := h.n2
    have hf := h.first
    have hnn := h.nn
    rw [nfa_Move_l2.eq_2, if_pos g.2, if_pos g, lget_lt _ i hi', List.drop_eq_getElem_cons hi', guard16 he.1 (has_eq (h.u _ (List.getElem_mem hi')) hb), Option.bind_some, List.foldl_cons]
    unfold mv1
    by_cases q : n.f1[i].f3 = false ∧ n.f1[i].f0 < (x.length : Int) ∧ lget x n.f1[i].f0 = true ∧ tb n.f1[i].f2 b = true
    · rw [if_pos (decide_eq_true q), if_pos q, if_pos ⟨he.2.2.1, by have := he.2.2.2; omega⟩, nfa_Move_c1, w64_id (by omega) (by omega)]
      have ih := move_l h x hb d (i + 1) m (lset o n.f1[i].f1 true) (by omega) (by omega) (by rw [lset_len, ho])
      unfold mv1 at ih
      exact_mod_cast ih
    · rw [if_neg (by simpa using q), if_neg q, nfa_Move_c1, w64_id (by omega) (by omega)]
      have ih := move_l h x hb d (i + 1) m o (by omega) (by omega) ho
      unfold mv1 at ih
      exact_mod_cast ih
theorem rmove_l {n : S24} (h : Rt n) (x : List Bool) {b : Nat} (hb : b < 256) : ∀ (d i m : Nat) (o : List Bool), i + d = n.f1.length → d < m → o.length = NN n →
    bosketref06_Move_l2 2000 n x (b : Int) m o (i : Int) = some ((n.f1.drop i).foldl (mv1 x b) o)
  | 0, i, m + 1, o, hi, _, ho => by
    rw [bosketref06_Move_l2.eq_2, if_neg (by omega), List.drop_of_length_le (by omega), bosketref06_Move_c0]; rfl
  | d + 1, i, m + 1, o, hi, hm, ho => by
    have hi' : i < n.f1.length := by omega
    have g : 0 ≤ (i : Int) ∧ (i : Int) < (n.f1.length : Int) := ⟨by omega, by omega⟩
    have he := h.ed n.f1[i] (List.getElem_mem hi')
    have hN := h.n2
    have hf := h.first
    have hnn := h.nn
    rw [bosketref06_Move_l2.eq_2, if_pos g.2, if_pos g, lget_lt _ i hi', List.drop_eq_getElem_cons hi', guard16 he.1 (rhas_eq (h.u _ (List.getElem_mem hi')) hb), Option.bind_some, List.foldl_cons]
    unfold mv1
    by_cases q : n.f1[i].f3 = false ∧ n.f1[i].f0 < (x.length : Int) ∧ lget x n.f1[i].f0 = true ∧ tb n.f1[i].f2 b = true
    · rw [if_pos (decide_eq_true q), if_pos q, if_pos ⟨he.2.2.1, by have := he.2.2.2; omega⟩, bosketref06_Move_c1, w64_id (by omega) (by omega)]
      have ih := rmove_l h x hb d (i + 1) m (lset o n.f1[i].f1 true) (by omega) (by omega) (by rw [lset_len, ho])
      unfold mv1 at ih
      exact_mod_cast ih
    · rw [if_neg (by simpa using q), if_neg q, bosketref06_Move_c1, w64_id (by omega) (by omega)]
      have ih := rmove_l h x hb d (i + 1) m o (by omega) (by omega) ho
      unfold mv1 at ih
      exact_mod_cast ih
theorem move_eq {n : S24} (h : Rt n) (x : List Bool) {c : Int} (h0 : 0 ≤ c) (h1 : c ≤ 255) : nfa_Move 2000 n x c = some (MV n x c.toNat) := by
  obtain ⟨b, rfl⟩ := Int.eq_ofNat_of_zero_le h0
  have hn1 := h.n1
  have hn2 := h.n2
  have hf := h.first
  have hnn := h.nn
  unfold nfa_Move
  rw [show n.f0.toNat = NN n from rfl]
  rw [if_pos ⟨by omega, by omega, by omega⟩]
  have := move_l h x (b := b) (by omega) n.f1.length 0 2000 (List.replicate (NN n) false) (by omega) (by omega) (by simp)
  rw [Int.natCast_zero, List.drop_zero] at this
  exact this
theorem rmove_eq {n : S24} (h : Rt n) (x : List Bool) {c : Int} (h0 : 0 ≤ c) (h1 : c ≤ 255) : bosketref06_Move 2000 n x c = some (MV n x c.toNat) := by
  obtain ⟨b, rfl⟩ := Int.eq_ofNat_of_zero_le h0
  have hn1 := h.n1
  have hn2 := h.n2
  have hf := h.first
  have hnn := h.nn
  unfold bosketref06_Move
  rw [show n.f0.toNat = NN n from rfl]
  rw [if_pos ⟨by omega, by omega, by omega⟩]
  have := rmove_l h x (b := b) (by omega) n.f1.length 0 2000 (List.replicate (NN n) false) (by omega) (by omega) (by simp)
  rw [Int.natCast_zero, List.drop_zero] at this
  exact this
/-! By a text. -/
def RN (n : S24) (s : ByteArray) : Nat → List Bool
  | 0 => CL n (lset (List.replicate (NN n) false) n.f2 true)
  | i + 1 => CL n (MV n (RN n s i) (byteAt s i).toNat)
theorem RN_len (n : S24) (s : ByteArray) : ∀ i, (RN n s i).length = NN n
  | 0 => by rw [RN, CL_len, lset_len, List.length_replicate]
  | i + 1 => by rw [RN, CL_len, MV_len]
theorem has_l {n : S24} (h : Rt n) (s : ByteArray) (hs : s.size ≤ 1000) : ∀ (d i m : Nat), i + d = s.size → d < m → nfa_Has_l1 2000 n s m (RN n s i) (i : Int) = some (lget (RN n s s.size) n.f3)
  | 0, i, m + 1, hi, _ => by
    have hl := h.last
    have hnn := h.nn
    have hz := RN_len n s i
    rw [nfa_Has_l1.eq_2, if_neg (by omega), nfa_Has_c0, if_pos ⟨hl.1, by rw [hz]; omega⟩, show i = s.size by omega]
  | d + 1, i, m + 1, hi, hm => by
    have hb := byteAt_u8 s i
    rw [nfa_Has_l1.eq_2, if_pos (by omega), if_pos ⟨by omega, by omega⟩, move_eq h _ hb.1 hb.2, Option.bind_some, close_eq h, Option.bind_some, ini_self (MV_len _ _ _), w64_id (by omega) (by omega)]
    have ih := has_l h s hs d (i + 1) m (by omega) (by omega)
    rw [RN] at ih
    exact_mod_cast ih
theorem nhas_eq {n : S24} (h : Rt n) (s : ByteArray) (hs : s.size ≤ 1000) : nfa_Has 2000 n s = some (lget (RN n s s.size) n.f3) := by
  have hn1 := h.n1
  have hf := h.first
  have hnn := h.nn
  unfold nfa_Has
  rw [show n.f0.toNat = NN n from rfl]
  rw [right_eq n h.n2, h.rt, Option.bind_some, if_neg (by decide), if_pos ⟨by omega, by omega, by omega⟩, if_pos ⟨hf.1, by simp; omega⟩, close_eq h, Option.bind_some, ini_self (by rw [lset_len, List.length_replicate])]
  exact_mod_cast has_l h s hs s.size 0 2000 (by omega) (by omega)
theorem nhas_not {n : S24} (h : rtB n = false) (h2 : n.f1.length ≤ 1000) (s : ByteArray) : nfa_Has 2000 n s = some false := by
  unfold nfa_Has
  rw [right_eq n h2, h]; rfl
theorem run_l {n : S24} (h : Rt n) (s : ByteArray) (hs : s.size ≤ 1000) : ∀ (d i m : Nat), i + d = s.size → d < m → bosketref06_Run_l1 2000 n s m (RN n s i) (i : Int) = some (RN n s s.size)
  | 0, i, m + 1, hi, _ => by
    rw [bosketref06_Run_l1.eq_2, if_neg (by omega), bosketref06_Run_c0, show i = s.size by omega]
  | d + 1, i, m + 1, hi, hm => by
    have hb := byteAt_u8 s i
    have hn := h.n1
    have hf := h.first
    have hnn := h.nn
    rw [bosketref06_Run_l1.eq_2, if_pos (by omega), if_pos ⟨by omega, by omega⟩, w64_id (n := byteAt s i) (by omega) (by omega), rmove_eq h _ hb.1 hb.2, Option.bind_some, rclose_eq h _ (by rw [MV_len]; omega), Option.bind_some, ini_self (MV_len _ _ _), w64_id (by omega) (by omega)]
    have ih := run_l h s hs d (i + 1) m (by omega) (by omega)
    rw [RN] at ih
    exact_mod_cast ih
theorem nrun_eq {n : S24} (h : Rt n) (s : ByteArray) (hs : s.size ≤ 1000) : bosketref06_Run 2000 n s = some (RN n s s.size) := by
  have hn1 := h.n1
  have hf := h.first
  have hnn := h.nn
  unfold bosketref06_Run
  rw [show n.f0.toNat = NN n from rfl]
  rw [if_pos ⟨by omega, by omega, by omega⟩, if_pos ⟨hf.1, by simp; omega⟩, rclose_eq h _ (by rw [lset_len, List.length_replicate]; omega), Option.bind_some, ini_self (by rw [lset_len, List.length_replicate])]
  exact_mod_cast run_l h s hs s.size 0 2000 (by omega) (by omega)
theorem same_l (l : List Bool) (hl : l.length ≤ 1000) : ∀ (d i m : Nat), i + d = l.length → d < m → bosketref06_Same_l1 2000 l l m (i : Int) = some true
  | 0, i, m + 1, hi, _ => by rw [bosketref06_Same_l1.eq_2, if_neg (by omega)]; rfl
  | d + 1, i, m + 1, hi, hm => by
    have ih := same_l l hl d (i + 1) m (by omega) (by omega)
    rw [bosketref06_Same_l1.eq_2, if_pos (by omega), if_pos ⟨by omega, by omega⟩, if_pos ⟨by omega, by omega⟩, if_neg (by simp), w64_id (by omega) (by omega)]
    exact_mod_cast ih
theorem same_eq (l : List Bool) (hl : l.length ≤ 1000) : bosketref06_Same 2000 l l = some true := by
  unfold bosketref06_Same
  rw [if_neg (by simp)]
  exact_mod_cast same_l l hl l.length 0 2000 (by omega) (by omega)
end Go.Avl.T3
/- Ported: texts between quotes. -/
namespace Go.Avl.T3
open Go Go.RowKit Go.Proofs Go.Avl
set_option linter.all false
set_option maxRecDepth 10000

theorem u8_of {n : Int} (h : (Lit.int .u8 n).wf = true) : 0 ≤ n ∧ n ≤ 255 := by
  simpa [Lit.wf, show IntKind.u8.min = 0 from rfl, show IntKind.u8.max = 255 from rfl] using h
def Bytes (p0 : S50) : Prop := ∀ c : Int, 0 ≤ vget p0.f0 c ∧ vget p0.f0 c ≤ 255
theorem bytes_of {p0 : S50} (h : wf50 p0) : Bytes p0 := by
  intro c
  have h1 := h.1
  by_cases hc : c.toNat < p0.f0.toList.length
  · have : vget p0.f0 c = p0.f0.toList[c.toNat] := by simp [vget, List.getD, List.getElem?_eq_getElem hc]
    rw [this]; exact u8_of (h1 _ (List.getElem_mem hc))
  · have : vget p0.f0 c = 0 := by
      have : p0.f0.toList[c.toNat]? = none := List.getElem?_eq_none (by omega)
      simp only [vget, List.getD, this]; rfl
    rw [this]; omega

def stp (p0 : S50) (s c : Int) : Int := if s < 0 ∨ (p0.f1.length : Int) ≤ s ∨ ((lget p0.f1 s).length : Int) ≤ vget p0.f0 c then -1 else lget (lget p0.f1 s) (vget p0.f0 c)
def mk (p0 : S50) (s : Int) : Int := if s < 0 ∨ (p0.f2.length : Int) ≤ s then -1 else lget p0.f2 s

theorem step_eq {p0 : S50} (hb : Bytes p0) (k : Nat) (s : Int) {c : Int} (h0 : 0 ≤ c) (h1 : c < 256) : dfa_Step k p0 s c = some (stp p0 s c) := by
  have hv := hb c
  have hw : w64 (vget p0.f0 c) = vget p0.f0 c := w64_id (by omega) (by omega)
  unfold dfa_Step stp
  rw [hw]
  by_cases a : s < 0
  · simp [a]
  · by_cases b : (p0.f1.length : Int) ≤ s
    · simp [a, b]
    · have g : 0 ≤ s ∧ s < (p0.f1.length : Int) := ⟨by omega, by omega⟩
      by_cases d : ((lget p0.f1 s).length : Int) ≤ vget p0.f0 c
      · simp [a, b, d, h0, h1, g]
      · simp [a, b, d, h0, h1, g, hv]
theorem mark_eq (p0 : S50) (k : Nat) (s : Int) : dfa_Mark k p0 s = some (mk p0 s) := by
  unfold dfa_Mark mk
  by_cases a : s < 0
  · simp [a]
  · by_cases b : (p0.f2.length : Int) ≤ s
    · simp [a, b]
    · simp [a, b]
theorem stp_neg (p0 : S50) (c : Int) : stp p0 (-1) c = -1 := by simp [stp]
theorem mk_neg (p0 : S50) : mk p0 (-1) = -1 := by simp [mk]
theorem small_l {p0 : S50} (k : Nat) (hn : p0.f1.length ≤ 20) : ∀ (m i : Nat), i ≤ p0.f1.length → p0.f1.length - i < m → ∃ b, bosketlaw08_Small_l1 k p0 m i = some b ∧ (b = true → ∀ j, i ≤ j → (h : j < p0.f1.length) → (p0.f1[j]).length ≤ 256)
  | 0, i, _, h => by omega
  | m + 1, i, hi, h => by
    rw [bosketlaw08_Small_l1.eq_2]
    by_cases a : (i : Int) < (p0.f1.length : Int)
    · have hlt : i < p0.f1.length := by omega
      have hrow : lget p0.f1 (i : Int) = p0.f1[i] := by simp [lget, List.getD, List.getElem?_eq_getElem hlt]
      rw [if_pos a, if_pos ⟨by omega, a⟩, hrow]
      by_cases b : (256 : Int) < ((p0.f1[i]).length : Int)
      · rw [if_pos b]; exact ⟨false, rfl, fun h => by cases h⟩
      · rw [if_neg b, w64_id (by omega) (by omega)]
        obtain ⟨c, h1, h2⟩ := small_l k hn m (i + 1) (by omega) (by omega)
        refine ⟨c, by simpa using h1, fun hc j hj hlt' => ?_⟩
        by_cases e : j = i
        · subst e; omega
        · exact h2 hc j (by omega) hlt'
    · rw [if_neg a]; exact ⟨true, rfl, fun _ j hj hlt => by omega⟩
theorem small_some (p0 : S50) {k : Nat} (hk : 2000 ≤ k) : ∃ b, bosketlaw08_Small k p0 = some b ∧ (b = true → p0.f1.length ≤ 20 ∧ p0.f2.length ≤ 30 ∧ ∀ r ∈ p0.f1, r.length ≤ 256) := by
  unfold bosketlaw08_Small
  by_cases a : (20 : Int) < (p0.f1.length : Int)
  · rw [if_pos a, Option.bind_some, if_pos rfl]; exact ⟨_, rfl, fun h => by cases h⟩
  · rw [if_neg a, Option.bind_some]
    by_cases b : (30 : Int) < (p0.f2.length : Int)
    · rw [if_pos (by simpa using b)]; exact ⟨_, rfl, fun h => by cases h⟩
    · rw [if_neg (by simpa using b)]
      obtain ⟨c, h1, h2⟩ := small_l (p0 := p0) k (by omega) k 0 (by omega) (by omega)
      refine ⟨c, by simpa using h1, fun hc => ⟨by omega, by omega, fun r hr => ?_⟩⟩
      obtain ⟨j, hj, rfl⟩ := List.getElem_of_mem hr
      exact h2 hc j (by omega) hj
end Go.Avl.T3
/- Machines in one state: when they may be, what both answer of them. -/
namespace Go.Avl.T3
open Go Go.RowKit Go.Proofs Go.Avl
set_option linter.all false
set_option maxRecDepth 10000

/-- Of so many numbers from one on: all, some. -/
def allB (p : Nat → Bool) : Nat → Nat → Bool
  | 0, _ => true
  | m + 1, i => p i && allB p m (i + 1)
def anyB' (p : Nat → Bool) : Nat → Nat → Bool
  | 0, _ => false
  | m + 1, i => p i || anyB' p m (i + 1)
theorem allB_iff (p : Nat → Bool) : ∀ (m i : Nat), allB p m i = true ↔ ∀ j, i ≤ j → j < i + m → p j = true
  | 0, i => by simp [allB]; omega
  | m + 1, i => by
    rw [allB, Bool.and_eq_true, allB_iff p m (i + 1)]
    constructor
    · rintro ⟨h1, h2⟩ j hj hj'
      by_cases e : j = i
      · rw [e]; exact h1
      · exact h2 j (by omega) (by omega)
    · intro h
      exact ⟨h i (by omega) (by omega), fun j hj hj' => h j (by omega) (by omega)⟩
theorem anyB_iff (p : Nat → Bool) : ∀ (m i : Nat), anyB' p m i = true ↔ ∃ j, i ≤ j ∧ j < i + m ∧ p j = true
  | 0, i => by simp [anyB']; omega
  | m + 1, i => by
    rw [anyB', Bool.or_eq_true, anyB_iff p m (i + 1)]
    constructor
    · rintro (h | ⟨j, h1, h2, h3⟩)
      · exact ⟨i, by omega, by omega, h⟩
      · exact ⟨j, by omega, by omega, h3⟩
    · rintro ⟨j, h1, h2, h3⟩
      by_cases e : j = i
      · exact .inl (e ▸ h3)
      · exact .inr ⟨j, by omega, by omega, h3⟩
/-- How many classes, after so many bytes. -/
def kc (v : Vector Int 256) : Nat → Int
  | 0 => 0
  | b + 1 => max (kc v b) (vget v (b : Int) + 1)
def kcl (v : Vector Int 256) : Int := kc v 256
def VB (v : Vector Int 256) : Prop := ∀ c : Int, 0 ≤ vget v c ∧ vget v c ≤ 255
theorem kc_rng {v : Vector Int 256} (h : VB v) : ∀ b : Nat, 0 ≤ kc v b ∧ kc v b ≤ 256
  | 0 => by simp [kc]
  | b + 1 => by
    have := kc_rng h b
    have := h (b : Int)
    rw [kc]; omega
theorem kc_lt {v : Vector Int 256} : ∀ (m b : Nat), b < m → vget v (b : Int) < kc v m
  | 0, b, h => by omega
  | m + 1, b, h => by
    rw [kc]
    by_cases e : b = m
    · subst e; omega
    · have := kc_lt (v := v) m b (by omega); omega
theorem kcl_lt {v : Vector Int 256} {b : Nat} (h : b < 256) : vget v (b : Int) < kcl v := kc_lt 256 b h
theorem w64s {x : Int} (h0 : -1000000000000 ≤ x) (h1 : x ≤ 1000000000000) : w64 x = x := w64_id (by omega) (by omega)
theorem count_l {v : Vector Int 256} (h : VB v) : ∀ (m b fuel : Nat), b + m = 256 → m < fuel → byteset_Count_l1 2000 v fuel (kc v b) (b : Int) = some (kcl v)
  | 0, b, f + 1, hb, _ => by
    rw [byteset_Count_l1.eq_2, if_neg (by omega), byteset_Count_c0, show b = 256 by omega]; rfl
  | m + 1, b, f + 1, hb, hf => by
    have h0 := h (b : Int)
    have ih := count_l h m (b + 1) f (by omega) (by omega)
    rw [byteset_Count_l1.eq_2, if_pos (by omega), if_pos ⟨by omega, by omega⟩, w64s (x := vget v (b : Int)) (by omega) (by omega), w64s (by omega) (by omega), w64s (by omega) (by omega)]
    rw [kc] at ih
    exact_mod_cast ih
theorem count_eq {v : Vector Int 256} (h : VB v) : byteset_Count 2000 v = some (kcl v) := count_l h 256 0 2000 (by omega) (by omega)
theorem classes_l {d : S50} (h : VB d.f0) : ∀ (m b fuel : Nat), b + m = 256 → m < fuel → bosketref08_classes_l1 2000 d fuel (kc d.f0 b) (b : Int) = some (kcl d.f0)
  | 0, b, f + 1, hb, _ => by
    rw [bosketref08_classes_l1.eq_2, if_neg (by omega), bosketref08_classes_c0, show b = 256 by omega]; rfl
  | m + 1, b, f + 1, hb, hf => by
    have h0 := h (b : Int)
    have ih := classes_l h m (b + 1) f (by omega) (by omega)
    rw [bosketref08_classes_l1.eq_2, if_pos (by omega), if_pos ⟨by omega, by omega⟩, w64s (x := vget d.f0 (b : Int)) (by omega) (by omega), w64s (by omega) (by omega), w64s (by omega) (by omega)]
    rw [kc] at ih
    exact_mod_cast ih
theorem classes_eq {d : S50} (h : VB d.f0) : bosketref08_classes 2000 d = some (kcl d.f0) := classes_l h 256 0 2000 (by omega) (by omega)
/-! Has each class a byte? -/
def hasB (v : Vector Int 256) (c : Nat) : Bool := anyB' (fun b => decide (vget v (b : Int) = (c : Int))) 256 0
def gapB (v : Vector Int 256) : Bool := allB (hasB v) (kcl v).toNat 0
theorem hasB_iff (v : Vector Int 256) (c : Nat) : hasB v c = true ↔ ∃ b : Nat, b < 256 ∧ vget v (b : Int) = c := by
  unfold hasB
  rw [anyB_iff]
  constructor
  · rintro ⟨b, _, h2, h3⟩; exact ⟨b, by omega, of_decide_eq_true h3⟩
  · rintro ⟨b, h1, h2⟩; exact ⟨b, by omega, by omega, decide_eq_true h2⟩
theorem rgap_l3 {d : S50} (h : VB d.f0) (rec4 : Int → Option Bool) (c : Nat) : ∀ (m b fuel : Nat) (acc : Bool), b + m = 256 → m < fuel →
    bosketref08_gapless_l3 2000 rec4 d (c : Int) fuel acc (b : Int) = bosketref08_gapless_c2 2000 rec4 (c : Int) (acc || anyB' (fun b => decide (vget d.f0 (b : Int) = (c : Int))) m b)
  | 0, b, f + 1, acc, hb, _ => by
    rw [bosketref08_gapless_l3.eq_2, if_neg (by omega), anyB', Bool.or_false]
  | m + 1, b, f + 1, acc, hb, hf => by
    have h0 := h (b : Int)
    have ih := fun acc => rgap_l3 h rec4 c m (b + 1) f acc (by omega) (by omega)
    have g : 0 ≤ (b : Int) ∧ (b : Int) < 256 := ⟨by omega, by omega⟩
    rw [bosketref08_gapless_l3.eq_2, if_pos (by omega), w64s (x := vget d.f0 (b : Int)) (by omega) (by omega), if_pos g]
    have key : (if acc = true then some true else some (decide (vget d.f0 (b : Int) = (c : Int)))) = some (acc || decide (vget d.f0 (b : Int) = (c : Int))) := by cases acc <;> simp
    rw [key, Option.bind_some, w64s (by omega) (by omega), show (b : Int) + 1 = ((b + 1 : Nat) : Int) by omega, ih, anyB', Bool.or_assoc]
theorem rgap_l4 {d : S50} (h : VB d.f0) : ∀ (m c fuel : Nat), (c : Int) + m = kcl d.f0 → m < fuel → bosketref08_gapless_l4 2000 d fuel (c : Int) = some (allB (hasB d.f0) m c)
  | 0, c, f + 1, hc, _ => by
    rw [bosketref08_gapless_l4.eq_2, classes_eq h, Option.bind_some, if_neg (by omega), bosketref08_gapless_c0]; rfl
  | m + 1, c, f + 1, hc, hf => by
    have h1 := kc_rng h 256
    have h2 : kcl d.f0 = kc d.f0 256 := rfl
    have ih := rgap_l4 h m (c + 1) f (by omega) (by omega)
    have e := rgap_l3 h (bosketref08_gapless_l4 2000 d f) c 256 0 2000 false (by omega) (by omega)
    rw [Int.natCast_zero] at e
    rw [bosketref08_gapless_l4.eq_2, classes_eq h, Option.bind_some, if_pos (by omega), e, Bool.false_or, bosketref08_gapless_c2, allB]
    show (if (!hasB d.f0 c) = true then some false else _) = _
    cases hasB d.f0 c with
    | false => rfl
    | true =>
      rw [if_neg (by decide), bosketref08_gapless_c1, w64s (by omega) (by omega), Bool.true_and]
      exact_mod_cast ih
theorem rgap_eq {d : S50} (h : VB d.f0) : bosketref08_gapless 2000 d = some (gapB d.f0) := by
  have h1 := kc_rng h 256
  have h2 : kcl d.f0 = kc d.f0 256 := rfl
  exact rgap_l4 h (kcl d.f0).toNat 0 2000 (by omega) (by omega)
theorem gap_l1 (x : List Bool) (hx : x.length ≤ 1000) : ∀ (m i fuel : Nat), i + m = x.length → m < fuel → dfa_gapless_l1 2000 x fuel (i : Int) = some (allB (fun j => lget x (j : Int)) m i)
  | 0, i, f + 1, hi, _ => by
    rw [dfa_gapless_l1.eq_2, if_neg (by omega)]; rfl
  | m + 1, i, f + 1, hi, hf => by
    have ih := gap_l1 x hx m (i + 1) f (by omega) (by omega)
    rw [dfa_gapless_l1.eq_2, if_pos (by omega), if_pos ⟨by omega, by omega⟩, allB, w64s (by omega) (by omega)]
    cases lget x (i : Int) with
    | false => rfl
    | true => rw [if_neg (by decide), Bool.true_and]; exact_mod_cast ih
theorem lget_lsetB (l : List Bool) (i q : Int) (b : Bool) (h0 : 0 ≤ i) (h1 : i < (l.length : Int)) (hq : 0 ≤ q) : lget (lset l i b) q = if q = i then b else lget l q := by
  unfold lget lset
  rw [List.getD, List.getD, List.getElem?_set]
  by_cases e : i.toNat = q.toNat
  · rw [if_pos e, if_pos (by omega), if_pos (by omega)]; rfl
  · rw [if_neg e, if_neg (by omega)]
theorem lget_repB (N : Nat) (q : Int) : lget (List.replicate N false) q = false := by
  unfold lget
  rw [List.getD, List.getElem?_replicate]
  split <;> rfl
theorem gap_l3 {v : Vector Int 256} (h : VB v) : ∀ (m b fuel : Nat) (x : List Bool), b + m = 256 → m < fuel → x.length = (kcl v).toNat → (∀ c : Nat, lget x (c : Int) = true ↔ ∃ j : Nat, j < b ∧ vget v (j : Int) = c) →
    ∃ y : List Bool, dfa_gapless_l3 2000 v fuel x (b : Int) = dfa_gapless_c2 2000 y ∧ y.length = (kcl v).toNat ∧ ∀ c : Nat, lget y (c : Int) = hasB v c
  | 0, b, f + 1, x, hb, _, hx, hs => by
    rw [dfa_gapless_l3.eq_2, if_neg (by omega)]
    refine ⟨x, rfl, hx, fun c => ?_⟩
    rw [Bool.eq_iff_iff, hs c, hasB_iff, show b = 256 by omega]
  | m + 1, b, f + 1, x, hb, hf, hx, hs => by
    have h0 := h (b : Int)
    have h1 := kc_rng h 256
    have h2 : kcl v = kc v 256 := rfl
    have h3 := kcl_lt (v := v) (b := b) (by omega)
    have hlt : vget v (b : Int) < (x.length : Int) := by omega
    rw [dfa_gapless_l3.eq_2, if_pos (by omega), if_pos ⟨by omega, by omega⟩, if_pos ⟨h0.1, hlt⟩, w64s (by omega) (by omega)]
    have ih := gap_l3 h m (b + 1) f (lset x (vget v (b : Int)) true) (by omega) (by omega) (by rw [lset_len]; exact hx) (fun c => by
      rw [lget_lsetB x _ _ true h0.1 hlt (by omega)]
      constructor
      · intro q
        by_cases e : (c : Int) = vget v (b : Int)
        · exact ⟨b, by omega, e.symm⟩
        · rw [if_neg e] at q
          obtain ⟨j, j1, j2⟩ := (hs c).1 q
          exact ⟨j, by omega, j2⟩
      · rintro ⟨j, j1, j2⟩
        by_cases e : (c : Int) = vget v (b : Int)
        · rw [if_pos e]
        · rw [if_neg e]
          refine (hs c).2 ⟨j, ?_, j2⟩
          by_cases q : j = b
          · subst q; exact absurd j2.symm e
          · omega)
    exact_mod_cast ih
theorem gap_eq {v : Vector Int 256} (h : VB v) : dfa_gapless 2000 v (kcl v) = some (gapB v) := by
  have h1 := kc_rng h 256
  have h2 : kcl v = kc v 256 := rfl
  unfold dfa_gapless
  rw [if_pos ⟨by omega, by omega, by omega⟩]
  obtain ⟨y, y1, y2, y3⟩ := gap_l3 h 256 0 2000 (List.replicate (kcl v).toNat false) (by omega) (by omega) (by simp) (fun c => by rw [lget_repB]; simp)
  rw [Int.natCast_zero] at y1
  rw [y1, dfa_gapless_c2]
  have e := gap_l1 y (by omega) y.length 0 2000 (by omega) (by omega)
  rw [Int.natCast_zero] at e
  rw [e, gapB, y2]
  congr 1
  rw [Bool.eq_iff_iff, allB_iff, allB_iff]
  exact ⟨fun q j a b => by rw [← y3 j]; exact q j a b, fun q j a b => by rw [y3 j]; exact q j a b⟩
/-! Rows. -/
def entB (d : S50) (r : List Int) (c : Nat) : Bool := decide (-1 ≤ lget r (c : Int) ∧ lget r (c : Int) < (d.f1.length : Int))
def rowB (d : S50) (i : Nat) : Bool := decide (((lget d.f1 (i : Int)).length : Int) = kcl d.f0 ∧ -1 ≤ lget d.f2 (i : Int) ∧ lget d.f2 (i : Int) < 32768) && allB (entB d (lget d.f1 (i : Int))) (lget d.f1 (i : Int)).length 0
def rgB (d : S50) : Bool := decide (1 ≤ d.f1.length ∧ d.f2.length = d.f1.length) && gapB d.f0 && allB (rowB d) d.f1.length 0
theorem rright_l2 {d : S50} (rec11 : Int → Option Bool) (i : Nat) (hi : i < d.f1.length) (hl : (lget d.f1 (i : Int)).length ≤ 256) (hn : d.f1.length ≤ 1000) : ∀ (m c fuel : Nat), c + m = (lget d.f1 (i : Int)).length → m < fuel →
    bosketref08_Right_l2 2000 rec11 d (i : Int) fuel (c : Int) = if allB (entB d (lget d.f1 (i : Int))) m c = true then bosketref08_Right_c1 2000 rec11 (i : Int) else some false
  | 0, c, f + 1, hc, _ => by
    rw [bosketref08_Right_l2.eq_2, if_pos ⟨by omega, by omega⟩, if_neg (by omega), allB, if_pos rfl]
  | m + 1, c, f + 1, hc, hf => by
    have ih := rright_l2 rec11 i hi hl hn m (c + 1) f (by omega) (by omega)
    have g : 0 ≤ (i : Int) ∧ (i : Int) < (d.f1.length : Int) := ⟨by omega, by omega⟩
    have g2 : 0 ≤ (c : Int) ∧ (c : Int) < ((lget d.f1 (i : Int)).length : Int) := ⟨by omega, by omega⟩
    rw [bosketref08_Right_l2.eq_2, if_pos g, if_pos g2.2, if_pos g, if_pos g2, if_pos g, if_pos g2]
    have key : (if lget (lget d.f1 (i : Int)) (c : Int) < (-1 : Int) then some true else some (decide ((d.f1.length : Int) ≤ lget (lget d.f1 (i : Int)) (c : Int)))) = some (!entB d (lget d.f1 (i : Int)) c) := by
      unfold entB
      by_cases a : lget (lget d.f1 (i : Int)) (c : Int) < (-1 : Int)
      · rw [if_pos a, decide_eq_false (by omega)]; rfl
      · rw [if_neg a]
        by_cases b : (d.f1.length : Int) ≤ lget (lget d.f1 (i : Int)) (c : Int)
        · rw [decide_eq_true b, decide_eq_false (by omega)]; rfl
        · rw [decide_eq_false b, decide_eq_true (by omega)]; rfl
    rw [key, Option.bind_some, w64s (by omega) (by omega), allB]
    cases entB d (lget d.f1 (i : Int)) c with
    | false => rfl
    | true => rw [if_neg (by decide), Bool.true_and]; exact_mod_cast ih
theorem right_l2 {d : S50} (rec12 : Int → Option Bool) (i : Nat) (hi : i < d.f1.length) (hl : (lget d.f1 (i : Int)).length ≤ 256) (hn : d.f1.length ≤ 1000) : ∀ (m c fuel : Nat), c + m = (lget d.f1 (i : Int)).length → m < fuel →
    dfa_Right_l2 2000 rec12 d (i : Int) fuel (c : Int) = if allB (entB d (lget d.f1 (i : Int))) m c = true then dfa_Right_c1 2000 rec12 (i : Int) else some false
  | 0, c, f + 1, hc, _ => by
    rw [dfa_Right_l2.eq_2, if_neg (by omega), allB, if_pos rfl]
  | m + 1, c, f + 1, hc, hf => by
    have ih := right_l2 rec12 i hi hl hn m (c + 1) f (by omega) (by omega)
    have g2 : 0 ≤ (c : Int) ∧ (c : Int) < ((lget d.f1 (i : Int)).length : Int) := ⟨by omega, by omega⟩
    rw [dfa_Right_l2.eq_2, if_pos g2.2, if_pos g2]
    have key : (if lget (lget d.f1 (i : Int)) (c : Int) < (-1 : Int) then some true else some (decide ((d.f1.length : Int) ≤ lget (lget d.f1 (i : Int)) (c : Int)))) = some (!entB d (lget d.f1 (i : Int)) c) := by
      unfold entB
      by_cases a : lget (lget d.f1 (i : Int)) (c : Int) < (-1 : Int)
      · rw [if_pos a, decide_eq_false (by omega)]; rfl
      · rw [if_neg a]
        by_cases b : (d.f1.length : Int) ≤ lget (lget d.f1 (i : Int)) (c : Int)
        · rw [decide_eq_true b, decide_eq_false (by omega)]; rfl
        · rw [decide_eq_false b, decide_eq_true (by omega)]; rfl
    rw [key, Option.bind_some, w64s (by omega) (by omega), allB]
    cases entB d (lget d.f1 (i : Int)) c with
    | false => rfl
    | true => rw [if_neg (by decide), Bool.true_and]; exact_mod_cast ih
theorem row_key {d : S50} (i : Nat) (hi : i < d.f1.length) (h2 : d.f2.length = d.f1.length) : (if ((lget d.f1 (i : Int)).length : Int) ≠ kcl d.f0 then some true else if 0 ≤ (i : Int) ∧ (i : Int) < (d.f2.length : Int) then if lget d.f2 (i : Int) < (-1 : Int) then some true else if 0 ≤ (i : Int) ∧ (i : Int) < (d.f2.length : Int) then some (decide ((32768 : Int) ≤ lget d.f2 (i : Int))) else none else none) =
    some (!decide (((lget d.f1 (i : Int)).length : Int) = kcl d.f0 ∧ -1 ≤ lget d.f2 (i : Int) ∧ lget d.f2 (i : Int) < 32768)) := by
  have g : 0 ≤ (i : Int) ∧ (i : Int) < (d.f2.length : Int) := ⟨by omega, by omega⟩
  rw [if_pos g, if_pos g]
  by_cases a : ((lget d.f1 (i : Int)).length : Int) = kcl d.f0
  · rw [if_neg (by simpa using a)]
    by_cases b : lget d.f2 (i : Int) < (-1 : Int)
    · rw [if_pos b, decide_eq_false (by omega)]; rfl
    · rw [if_neg b]
      by_cases c : (32768 : Int) ≤ lget d.f2 (i : Int)
      · rw [decide_eq_true c, decide_eq_false (by omega)]; rfl
      · rw [decide_eq_false c, decide_eq_true ⟨a, by omega, by omega⟩]; rfl
  · rw [if_pos a, decide_eq_false (fun q => a q.1)]; rfl
theorem rright_l3 {d : S50} (hv : VB d.f0) (h2 : d.f2.length = d.f1.length) (hl : ∀ r ∈ d.f1, r.length ≤ 256) (hn : d.f1.length ≤ 1000) : ∀ (m i fuel : Nat), i + m = d.f1.length → m < fuel →
    bosketref08_Right_l3 2000 d fuel (i : Int) = some (allB (rowB d) m i)
  | 0, i, f + 1, hi, _ => by
    rw [bosketref08_Right_l3.eq_2, if_neg (by omega)]; rfl
  | m + 1, i, f + 1, hi, hf => by
    have hi' : i < d.f1.length := by omega
    have hr : (lget d.f1 (i : Int)).length ≤ 256 := by rw [lget_lt _ i hi']; exact hl _ (List.getElem_mem hi')
    have ih := rright_l3 hv h2 hl hn m (i + 1) f (by omega) (by omega)
    have e := rright_l2 (bosketref08_Right_l3 2000 d f) i hi' hr hn (lget d.f1 (i : Int)).length 0 2000 (by omega) (by omega)
    rw [Int.natCast_zero] at e
    rw [bosketref08_Right_l3.eq_2, if_pos (by omega), if_pos ⟨by omega, by omega⟩, classes_eq hv, Option.bind_some, row_key i hi' h2, Option.bind_some, e, allB, rowB]
    cases decide (((lget d.f1 (i : Int)).length : Int) = kcl d.f0 ∧ -1 ≤ lget d.f2 (i : Int) ∧ lget d.f2 (i : Int) < 32768) with
    | false => rfl
    | true =>
      rw [if_neg (by decide), Bool.true_and]
      cases allB (entB d (lget d.f1 (i : Int))) (lget d.f1 (i : Int)).length 0 with
      | false => rfl
      | true => rw [if_pos rfl, bosketref08_Right_c1, w64s (by omega) (by omega), Bool.true_and]; exact_mod_cast ih
theorem right_l3 {d : S50} (h2 : d.f2.length = d.f1.length) (hl : ∀ r ∈ d.f1, r.length ≤ 256) (hn : d.f1.length ≤ 1000) : ∀ (m i fuel : Nat), i + m = d.f1.length → m < fuel →
    dfa_Right_l3 2000 d (kcl d.f0) fuel (i : Int) = some (allB (rowB d) m i)
  | 0, i, f + 1, hi, _ => by
    rw [dfa_Right_l3.eq_2, if_neg (by omega)]; rfl
  | m + 1, i, f + 1, hi, hf => by
    have hi' : i < d.f1.length := by omega
    have hr : (lget d.f1 (i : Int)).length ≤ 256 := by rw [lget_lt _ i hi']; exact hl _ (List.getElem_mem hi')
    have ih := right_l3 h2 hl hn m (i + 1) f (by omega) (by omega)
    have e := right_l2 (dfa_Right_l3 2000 d (kcl d.f0) f) i hi' hr hn (lget d.f1 (i : Int)).length 0 2000 (by omega) (by omega)
    rw [Int.natCast_zero] at e
    rw [dfa_Right_l3.eq_2, if_pos (by omega), if_pos ⟨by omega, by omega⟩, row_key i hi' h2, Option.bind_some, e, allB, rowB]
    cases decide (((lget d.f1 (i : Int)).length : Int) = kcl d.f0 ∧ -1 ≤ lget d.f2 (i : Int) ∧ lget d.f2 (i : Int) < 32768) with
    | false => rfl
    | true =>
      rw [if_neg (by decide), Bool.true_and]
      cases allB (entB d (lget d.f1 (i : Int))) (lget d.f1 (i : Int)).length 0 with
      | false => rfl
      | true => rw [if_pos rfl, dfa_Right_c1, w64s (by omega) (by omega), Bool.true_and]; exact_mod_cast ih
theorem rdright_eq {d : S50} (hv : VB d.f0) (hl : ∀ r ∈ d.f1, r.length ≤ 256) (hn : d.f1.length ≤ 1000) : bosketref08_Right 2000 d = some (rgB d) := by
  unfold bosketref08_Right rgB
  by_cases a : (d.f1.length : Int) < 1
  · rw [if_pos a, Option.bind_some, if_pos rfl, decide_eq_false (by omega)]; rfl
  rw [if_neg a, if_neg (by omega)]
  by_cases b : (d.f2.length : Int) = (d.f1.length : Int)
  · rw [if_neg (by simpa using b), rgap_eq hv, Option.bind_some, Option.bind_some, decide_eq_true ⟨by omega, by omega⟩]
    cases gapB d.f0 with
    | false => rfl
    | true =>
      rw [if_neg (by decide)]
      have := rright_l3 hv (by omega) hl hn d.f1.length 0 2000 (by omega) (by omega)
      simpa using this
  · rw [if_pos b, Option.bind_some, if_pos rfl, decide_eq_false (by omega)]; rfl
theorem dright_eq {d : S50} (hv : VB d.f0) (hl : ∀ r ∈ d.f1, r.length ≤ 256) (hn : d.f1.length ≤ 1000) : dfa_Right 2000 d = some (rgB d) := by
  unfold dfa_Right rgB
  by_cases a : (d.f1.length : Int) = 0
  · rw [if_pos a, Option.bind_some, if_pos rfl, decide_eq_false (by omega)]; rfl
  rw [if_neg a, if_neg (by omega)]
  by_cases b : (d.f2.length : Int) = (d.f1.length : Int)
  · rw [decide_eq_false (by simpa using b), Option.bind_some, if_neg (by decide), count_eq hv, Option.bind_some, gap_eq hv, Option.bind_some, decide_eq_true ⟨by omega, by omega⟩]
    cases gapB d.f0 with
    | false => rfl
    | true =>
      rw [if_neg (by decide)]
      have := right_l3 (by omega) hl hn d.f1.length 0 2000 (by omega) (by omega)
      simpa using this
  · rw [decide_eq_true b, Option.bind_some, if_pos rfl, decide_eq_false (by omega)]; rfl
/-- A machine that may be, not too large. -/
structure Dr (d : S50) : Prop where
  n1 : 1 ≤ d.f1.length
  n2 : d.f1.length ≤ 1000
  ml : d.f2.length = d.f1.length
  vb : VB d.f0
  gap : ∀ c : Nat, (c : Int) < kcl d.f0 → ∃ b : Nat, b < 256 ∧ vget d.f0 (b : Int) = c
  row : ∀ r ∈ d.f1, (r.length : Int) = kcl d.f0
  ent : ∀ r ∈ d.f1, ∀ x ∈ r, -1 ≤ x ∧ x < (d.f1.length : Int)
  mark : ∀ m ∈ d.f2, -1 ≤ m ∧ m < 32768
theorem lget_mem {α : Type} [Inhabited α] {l : List α} {x : α} (h : x ∈ l) : ∃ j : Nat, j < l.length ∧ lget l (j : Int) = x := by
  obtain ⟨j, hj, rfl⟩ := List.getElem_of_mem h
  exact ⟨j, hj, lget_lt l j hj⟩
theorem mem_lget {α : Type} [Inhabited α] {l : List α} {i : Int} (h0 : 0 ≤ i) (h1 : i < (l.length : Int)) : lget l i ∈ l := by
  have : lget l i = l[i.toNat]'(by omega) := by
    have := lget_lt l i.toNat (by omega)
    rwa [Int.toNat_of_nonneg h0] at this
  rw [this]; exact List.getElem_mem _
theorem rgB_iff {d : S50} (hv : VB d.f0) (hn : d.f1.length ≤ 1000) : rgB d = true ↔ Dr d := by
  have hk := kc_rng hv 256
  have hk2 : kcl d.f0 = kc d.f0 256 := rfl
  simp only [rgB, Bool.and_eq_true, decide_eq_true_eq, gapB, allB_iff, rowB, entB]
  constructor
  · rintro ⟨⟨⟨h1, h2⟩, h3⟩, h4⟩
    refine ⟨h1, hn, h2, hv, fun c hc => (hasB_iff _ c).1 (h3 c (by omega) (by omega)), fun r hr => ?_, fun r hr x hx => ?_, fun m hm => ?_⟩
    · obtain ⟨j, hj, rfl⟩ := lget_mem hr
      exact (h4 j (by omega) (by omega)).1.1
    · obtain ⟨j, hj, rfl⟩ := lget_mem hr
      obtain ⟨c, hc, rfl⟩ := lget_mem hx
      exact (h4 j (by omega) (by omega)).2 c (by omega) (by omega)
    · obtain ⟨j, hj, rfl⟩ := lget_mem hm
      exact (h4 j (by omega) (by omega)).1.2
  · intro h
    refine ⟨⟨⟨h.n1, h.ml⟩, fun j _ hj => (hasB_iff _ j).2 (h.gap j (by omega))⟩, fun j _ hj => ?_⟩
    have hr : lget d.f1 (j : Int) ∈ d.f1 := mem_lget (by omega) (by omega)
    have hm := h.ml
    exact ⟨⟨h.row _ hr, h.mark _ (mem_lget (by omega) (by omega))⟩, fun c _ hc => h.ent _ hr _ (mem_lget (by omega) (by omega))⟩
theorem Dr.rg {d : S50} (h : Dr d) : rgB d = true := (rgB_iff h.vb h.n2).2 h
theorem Dr.row256 {d : S50} (h : Dr d) : ∀ r ∈ d.f1, r.length ≤ 256 := fun r hr => by
  have h1 := kc_rng h.vb 256
  have h2 : kcl d.f0 = kc d.f0 256 := rfl
  have := h.row r hr
  omega
theorem Dr.right {d : S50} (h : Dr d) : dfa_Right 2000 d = some true := by rw [dright_eq h.vb h.row256 h.n2, h.rg]
theorem Dr.rright {d : S50} (h : Dr d) : bosketref08_Right 2000 d = some true := by rw [rdright_eq h.vb h.row256 h.n2, h.rg]
theorem Dr.rowk {d : S50} (h : Dr d) {i : Int} (h0 : 0 ≤ i) (h1 : i < (d.f1.length : Int)) : ((lget d.f1 i).length : Int) = kcl d.f0 := h.row _ (mem_lget h0 h1)
theorem Dr.entk {d : S50} (h : Dr d) {i c : Int} (h0 : 0 ≤ i) (h1 : i < (d.f1.length : Int)) (c0 : 0 ≤ c) (c1 : c < ((lget d.f1 i).length : Int)) : -1 ≤ lget (lget d.f1 i) c ∧ lget (lget d.f1 i) c < (d.f1.length : Int) := h.ent _ (mem_lget h0 h1) _ (mem_lget c0 c1)
end Go.Avl.T3
/- Machines in one state: which states are reached, from which a mark is reached. -/
namespace Go.Avl.T3
open Go Go.RowKit Go.Proofs Go.Avl
set_option linter.all false
set_option maxRecDepth 10000

abbrev rw' (d : S50) (p : Int) : List Int := lget d.f1 p
/-- Reached from a state. -/
inductive DR (d : S50) (s : Int) : Int → Prop
  | refl : DR d s s
  | step {p : Int} {c : Nat} : DR d s p → (c : Int) < ((rw' d p).length : Int) → 0 ≤ lget (rw' d p) (c : Int) → DR d s (lget (rw' d p) (c : Int))
theorem DR.in {d : S50} (h : Dr d) {s q : Int} (hs : 0 ≤ s ∧ s < (d.f1.length : Int)) (k : DR d s q) : 0 ≤ q ∧ q < (d.f1.length : Int) := by
  induction k with
  | refl => exact hs
  | step _ hc h0 ih => exact ⟨h0, (h.entk ih.1 ih.2 (by omega) hc).2⟩
theorem DR.trans {d : S50} {s p q : Int} (h : DR d s p) (k : DR d p q) : DR d s q := by
  induction k with
  | refl => exact h
  | step _ hc h0 ih => exact .step ih hc h0
/-! Rows of truths. -/
theorem lget_iff (x : List Bool) (q : Int) : lget x q = true ↔ x[q.toNat]? = some true := by
  unfold lget
  rw [List.getD]
  cases x[q.toNat]? with
  | none => simp
  | some b => cases b <;> simp
theorem le_cnt : ∀ (x y : List Bool), x.length = y.length → (∀ j : Nat, x[j]? = some true → y[j]? = some true) → x = y ∨ cnt x < cnt y
  | [], [], _, _ => .inl rfl
  | a :: x, b :: y, hl, h => by
    have ih := le_cnt x y (by simpa using hl) (fun j hj => by have := h (j + 1) (by simpa using hj); simpa using this)
    have h0 : a = true → b = true := fun e => by have := h 0 (by simp [e]); simpa using this
    simp only [cnt, List.count_cons] at ih ⊢
    rcases ih with rfl | ih
    · cases a <;> cases b <;> simp at h0 ⊢
    · right
      cases a <;> cases b <;> simp at h0 ⊢ <;> omega
theorem lext {x y : List Bool} (hl : x.length = y.length) (h : ∀ q : Int, 0 ≤ q → q < (x.length : Int) → (lget x q = true ↔ lget y q = true)) : x = y := by
  apply List.ext_getElem hl
  intro j h1 h2
  have := h (j : Int) (by omega) (by omega)
  rw [lget_lt x j h1, lget_lt y j h2] at this
  rw [Bool.eq_iff_iff]; exact this
/-- One row within another one. -/
def LE (x y : List Bool) : Prop := ∀ q : Int, 0 ≤ q → lget x q = true → lget y q = true
theorem LE.cnt {x y : List Bool} (h : LE x y) (hl : x.length = y.length) : x = y ∨ cnt x < cnt y :=
  le_cnt x y hl fun j hj => by
    have := h (j : Int) (by omega) ((lget_iff _ _).2 (by simpa using hj))
    have := (lget_iff _ _).1 this
    simpa using this
theorem LE.refl (x : List Bool) : LE x x := fun _ _ h => h
theorem LE.trans {x y z : List Bool} (h : LE x y) (k : LE y z) : LE x z := fun q h0 h1 => k q h0 (h q h0 h1)
theorem LE.set {x : List Bool} {i : Int} (h0 : 0 ≤ i) (h1 : i < (x.length : Int)) : LE x (lset x i true) := fun q hq h => by
  rw [lget_lsetB x i q true h0 h1 hq]
  split
  · rfl
  · exact h
/-! The program's walk: an open list. -/
def ps1 (s : List Bool × List Int) (q : Int) : List Bool × List Int := if 0 ≤ q ∧ lget s.1 q = false then (lset s.1 q true, s.2 ++ [q]) else s
def ps (l : List Int) (s : List Bool × List Int) : List Bool × List Int := l.foldl ps1 s
theorem ps_len : ∀ (l : List Int) (s : List Bool × List Int), (ps l s).1.length = s.1.length
  | [], _ => rfl
  | q :: l, s => by
    show (ps l (ps1 s q)).1.length = _
    rw [ps_len l]
    unfold ps1; split
    · exact lset_len _ _ _
    · rfl
theorem ps_cnt {N : Int} : ∀ (l : List Int) (s : List Bool × List Int), (∀ q ∈ l, q < N) → (s.1.length : Int) = N → cnt (ps l s).1 + s.2.length = cnt s.1 + (ps l s).2.length
  | [], _, _, _ => rfl
  | q :: l, s, h, hs => by
    have hq := h q (by simp)
    have hl : (ps1 s q).1.length = s.1.length := by
      unfold ps1; split
      · exact lset_len _ _ _
      · rfl
    have ih := ps_cnt l (ps1 s q) (fun q hq => h q (by simp [hq])) (by rw [hl]; exact hs)
    show cnt (ps l (ps1 s q)).1 + s.2.length = cnt s.1 + (ps l (ps1 s q)).2.length
    have : cnt (ps1 s q).1 + s.2.length = cnt s.1 + (ps1 s q).2.length := by
      unfold ps1
      split
      · rename_i c
        have : cnt (lset s.1 q true) = cnt s.1 + 1 := by
          have hi : q.toNat < s.1.length := by omega
          refine cnt_set s.1 q.toNat hi ?_
          have e := c.2
          unfold lget at e
          rw [List.getD, List.getElem?_eq_getElem hi] at e
          rw [List.getElem?_eq_getElem hi]; simpa using e
        simp only [List.length_append, List.length_singleton]
        omega
      · rfl
    omega
theorem ps_iff {N : Int} {q : Int} (hq : 0 ≤ q) : ∀ (l : List Int) (s : List Bool × List Int), (∀ q ∈ l, q < N) → (s.1.length : Int) = N → (lget (ps l s).1 q = true ↔ lget s.1 q = true ∨ q ∈ l)
  | [], s, _, _ => by simp [ps]
  | p :: l, s, h, hs => by
    have hp := h p (by simp)
    have hl : (ps1 s p).1.length = s.1.length := by
      unfold ps1; split
      · exact lset_len _ _ _
      · rfl
    have ih := ps_iff hq l (ps1 s p) (fun q hq => h q (by simp [hq])) (by rw [hl]; exact hs)
    show lget (ps l (ps1 s p)).1 q = true ↔ _
    rw [ih]
    have : lget (ps1 s p).1 q = true ↔ lget s.1 q = true ∨ q = p := by
      unfold ps1
      split
      · rename_i c
        show lget (lset s.1 p true) q = true ↔ _
        rw [lget_lsetB s.1 p q true c.1 (by omega) hq]
        by_cases e : q = p
        · simp [e]
        · rw [if_neg e]; simp [e]
      · rename_i c
        constructor
        · exact .inl
        · rintro (e | rfl)
          · exact e
          · cases w : lget s.1 q with
            | true => rfl
            | false => exact absurd ⟨hq, w⟩ c
    rw [this]; simp [or_assoc]
theorem ps_open : ∀ (l : List Int) (s : List Bool × List Int), (∀ q ∈ (ps l s).2, q ∈ s.2 ∨ (q ∈ l ∧ 0 ≤ q)) ∧ (∀ q ∈ s.2, q ∈ (ps l s).2)
  | [], s => ⟨fun q h => .inl h, fun q h => h⟩
  | p :: l, s => by
    obtain ⟨i1, i2⟩ := ps_open l (ps1 s p)
    show (∀ q ∈ (ps l (ps1 s p)).2, _) ∧ (∀ q ∈ s.2, q ∈ (ps l (ps1 s p)).2)
    have k1 : ∀ q ∈ (ps1 s p).2, q ∈ s.2 ∨ (q = p ∧ 0 ≤ p) := by
      intro q hq
      unfold ps1 at hq
      split at hq
      · rename_i c
        rcases List.mem_append.1 hq with hq | hq
        · exact .inl hq
        · exact .inr ⟨by simpa using hq, c.1⟩
      · exact .inl hq
    have k2 : ∀ q ∈ s.2, q ∈ (ps1 s p).2 := by
      intro q hq
      unfold ps1
      split
      · simp [hq]
      · exact hq
    refine ⟨fun q hq => ?_, fun q hq => i2 q (k2 q hq)⟩
    rcases i1 q hq with h | h
    · rcases k1 q h with h | ⟨rfl, h⟩
      · exact .inl h
      · exact .inr ⟨by simp, h⟩
    · exact .inr ⟨by simp [h.1], h.2⟩
theorem ps_new {N : Int} {q : Int} (hq : 0 ≤ q) : ∀ (l : List Int) (s : List Bool × List Int), (∀ q ∈ l, q < N) → (s.1.length : Int) = N → lget (ps l s).1 q = true → lget s.1 q = true ∨ q ∈ (ps l s).2
  | [], s, _, _, h => .inl h
  | p :: l, s, h, hs, hg => by
    have hp := h p (by simp)
    have hl : (ps1 s p).1.length = s.1.length := by
      unfold ps1; split
      · exact lset_len _ _ _
      · rfl
    rcases ps_new hq l (ps1 s p) (fun q hq => h q (by simp [hq])) (by rw [hl]; exact hs) hg with k | k
    · unfold ps1 at k
      split at k
      · rename_i c
        simp only [] at k
        rw [lget_lsetB s.1 p q true c.1 (by omega) hq] at k
        by_cases e : q = p
        · right
          show q ∈ (ps l (ps1 s p)).2
          refine (ps_open l (ps1 s p)).2 q ?_
          unfold ps1; rw [if_pos c, e]; simp
        · rw [if_neg e] at k; exact .inl k
      · exact .inl k
    · exact .inr k
theorem reach_l2 {d : S50} (h : Dr d) (rec16 : List Bool → List Int → Option (List Bool)) (o : List Int) (p : Int) (hp : lget o 0 = p) (h0 : 0 ≤ p ∧ p < (d.f1.length : Int)) : ∀ (m c fuel : Nat) (x : List Bool) (o2 : List Int), c + m = (rw' d p).length → m < fuel → x.length = d.f1.length → o2.length + m ≤ 100000000 →
    dfa_Reached_l2 2000 rec16 d o fuel x o2 (c : Int) = rec16 (ps ((rw' d p).drop c) (x, o2)).1 (ps ((rw' d p).drop c) (x, o2)).2
  | 0, c, f + 1, x, o2, hc, _, hx, ho => by
    rw [dfa_Reached_l2.eq_2, hp, if_neg (by show ¬ (c : Int) < ((rw' d p).length : Int); omega), List.drop_of_length_le (by omega)]; rfl
  | m + 1, c, f + 1, x, o2, hc, hf, hx, ho => by
    have hc' : c < (rw' d p).length := by omega
    have he := h.entk h0.1 h0.2 (c := (c : Int)) (by omega) (by show (c : Int) < ((rw' d p).length : Int); omega)
    have h256 : (rw' d p).length ≤ 256 := h.row256 _ (mem_lget h0.1 h0.2)
    have hn := h.n2
    have ge : lget (rw' d p) (c : Int) = (rw' d p)[c] := lget_lt _ c hc'
    rw [dfa_Reached_l2.eq_2, hp, if_pos (by show (c : Int) < ((rw' d p).length : Int); omega), if_pos ⟨by omega, by show (c : Int) < ((rw' d p).length : Int); omega⟩]
    show (Option.bind (α := Bool) _ _) = _
    rw [List.drop_eq_getElem_cons hc']
    show _ = rec16 (ps ((rw' d p).drop (c + 1)) (ps1 (x, o2) (rw' d p)[c])).1 (ps ((rw' d p).drop (c + 1)) (ps1 (x, o2) (rw' d p)[c])).2
    rw [← ge]
    generalize lget (rw' d p) (c : Int) = q at he
    unfold ps1
    by_cases a : 0 ≤ q
    · have g : 0 ≤ q ∧ q < (x.length : Int) := ⟨a, by omega⟩
      rw [if_pos a, if_pos g.2, if_pos g, Option.bind_some]
      cases w : lget x q with
      | false =>
        rw [if_pos (by decide), if_pos g, if_pos (by simp; omega), if_pos ⟨a, rfl⟩, dfa_Reached_c1, w64s (by omega) (by omega)]
        have ih := reach_l2 h rec16 o p hp h0 m (c + 1) f (lset x q true) (o2 ++ [q]) (by omega) (by omega) (by rw [lset_len]; exact hx) (by simp; omega)
        exact_mod_cast ih
      | true =>
        rw [if_neg (by decide), if_neg (by simp), dfa_Reached_c1, w64s (by omega) (by omega)]
        have ih := reach_l2 h rec16 o p hp h0 m (c + 1) f x o2 (by omega) (by omega) hx (by omega)
        exact_mod_cast ih
    · rw [if_neg a, Option.bind_some, if_neg (by decide), if_neg (fun e => a e.1), dfa_Reached_c1, w64s (by omega) (by omega)]
      have ih := reach_l2 h rec16 o p hp h0 m (c + 1) f x o2 (by omega) (by omega) hx (by omega)
      exact_mod_cast ih
theorem cnt_le_len {x : List Bool} {n : Nat} (h : x.length = n) : cnt x ≤ n := h ▸ cnt_le x
/-- So far: what is marked is reached, and what it leads to is marked, or it is still open. -/
structure RI (d : S50) (s : Int) (x : List Bool) (o : List Int) : Prop where
  len : x.length = d.f1.length
  op : ∀ q ∈ o, 0 ≤ q ∧ q < (d.f1.length : Int) ∧ lget x q = true
  snd : ∀ q, 0 ≤ q → lget x q = true → DR d s q
  cls : ∀ p, 0 ≤ p → p < (d.f1.length : Int) → lget x p = true → p ∈ o ∨ ∀ c : Nat, (c : Int) < ((rw' d p).length : Int) → 0 ≤ lget (rw' d p) (c : Int) → lget x (lget (rw' d p) (c : Int)) = true
  fst : lget x s = true
theorem reach_l3 {d : S50} (h : Dr d) {s : Int} (hs : 0 ≤ s ∧ s < (d.f1.length : Int)) : ∀ (m : Nat) (x : List Bool) (o : List Int), RI d s x o → (d.f1.length - cnt x) + o.length < m → o.length ≤ 100000 + cnt x →
    ∃ R, dfa_Reached_l3 2000 d m x o = some R ∧ R.length = d.f1.length ∧ ∀ q, 0 ≤ q → (lget R q = true ↔ DR d s q)
  | m + 1, x, o, hI, hm, ho => by
    have hn := h.n2
    have hcx := cnt_le_len hI.len
    rw [dfa_Reached_l3.eq_2]
    cases o with
    | nil =>
      rw [if_neg (by simp), dfa_Reached_c0]
      refine ⟨x, rfl, hI.len, fun q hq => ⟨hI.snd q hq, fun k => ?_⟩⟩
      induction k with
      | refl => exact hI.fst
      | @step p c k hc h0 ih =>
        have hp := k.in h hs
        rcases hI.cls p hp.1 hp.2 (ih hp.1) with q | q
        · cases q
        · exact q c hc h0
    | cons p o =>
      have hp := hI.op p (by simp)
      have hrow : (rw' d p).length ≤ 256 := h.row256 _ (mem_lget hp.1 hp.2.1)
      have hlt : ∀ q ∈ rw' d p, q < (d.f1.length : Int) := fun q hq => (h.ent _ (mem_lget hp.1 hp.2.1) q hq).2
      have hp0 : lget (p :: o) (0 : Int) = p := rfl
      have hlen : (x.length : Int) = (d.f1.length : Int) := by rw [hI.len]
      rw [if_pos (by simp), if_pos ⟨by omega, by simp⟩, if_pos ⟨by omega, by simp; omega⟩, hp0, if_pos ⟨hp.1, hp.2.1⟩]
      have e := reach_l2 h (dfa_Reached_l3 2000 d m) (p :: o) p hp0 ⟨hp.1, hp.2.1⟩ (rw' d p).length 0 2000 x o (by omega) (by omega) hI.len (by simp at ho; omega)
      rw [Int.natCast_zero, List.drop_zero] at e
      show ∃ R, dfa_Reached_l2 2000 (dfa_Reached_l3 2000 d m) d (p :: o) 2000 x o 0 = some R ∧ _
      rw [e]
      have hl := ps_len (rw' d p) (x, o)
      have hc := ps_cnt (N := (d.f1.length : Int)) (rw' d p) (x, o) hlt hlen
      have hiff := fun {q} (hq : 0 ≤ q) => ps_iff (N := (d.f1.length : Int)) hq (rw' d p) (x, o) hlt hlen
      have hop := ps_open (rw' d p) (x, o)
      have hnew := fun {q} (hq : 0 ≤ q) => ps_new (N := (d.f1.length : Int)) hq (rw' d p) (x, o) hlt hlen
      generalize ps (rw' d p) (x, o) = s2 at hl hc hiff hop hnew
      obtain ⟨x2, o2⟩ := s2
      simp only [] at hl hc hiff hop hnew
      have hc2 := cnt_le_len (x := x2) (n := d.f1.length) (by rw [hl]; exact hI.len)
      have dstep : ∀ q ∈ rw' d p, 0 ≤ q → DR d s q := by
        intro q hq h0
        obtain ⟨c, hc, rfl⟩ := lget_mem hq
        exact .step (hI.snd p hp.1 hp.2.2) (by omega) h0
      refine reach_l3 h hs m x2 o2 ⟨by rw [hl]; exact hI.len, fun q hq => ?_, fun q hq hg => ?_, fun r h0 h1 hg => ?_, ?_⟩ (by simp at hm; omega) (by simp at ho; omega)
      · rcases hop.1 q hq with k | ⟨k1, k2⟩
        · have := hI.op q (by simp [k])
          exact ⟨this.1, this.2.1, (hiff this.1).2 (.inl this.2.2)⟩
        · exact ⟨k2, hlt q k1, (hiff k2).2 (.inr k1)⟩
      · rcases (hiff hq).1 hg with k | k
        · exact hI.snd q hq k
        · exact dstep q k hq
      · by_cases e : r = p
        · subst e
          exact .inr fun c hc h0 => (hiff h0).2 (.inr (mem_lget (by omega) hc))
        · rcases hnew h0 hg with k | k
          · rcases hI.cls r h0 h1 k with k | k
            · rcases List.mem_cons.1 k with k | k
              · exact absurd k e
              · exact .inl (hop.2 r k)
            · exact .inr fun c hc h0 => (hiff h0).2 (.inl (k c hc h0))
          · exact .inl k
      · exact (hiff hs.1).2 (.inl hI.fst)
/-- The states that are reached from one. -/
def RS (d : S50) (s : Int) (R : List Bool) : Prop := R.length = d.f1.length ∧ ∀ q, 0 ≤ q → q < (d.f1.length : Int) → (lget R q = true ↔ (0 ≤ s ∧ s < (d.f1.length : Int)) ∧ DR d s q)
theorem RS.uniq {d : S50} {s : Int} {R R' : List Bool} (h : RS d s R) (h' : RS d s R') : R = R' :=
  lext (h.1.trans h'.1.symm) fun q h0 h1 => by rw [h.1] at h1; rw [h.2 q h0 h1, h'.2 q h0 h1]
theorem cnt_one {N : Nat} {s : Int} (hs : 0 ≤ s ∧ s < (N : Int)) : cnt (lset (List.replicate N false) s true) = 1 := by
  have hi : s.toNat < (List.replicate N false).length := by simp; omega
  have := cnt_set (List.replicate N false) s.toNat hi (by rw [List.getElem?_eq_getElem hi]; simp)
  have h0 : cnt (List.replicate N false) = 0 := by unfold cnt; simp [List.count_replicate]
  rw [h0] at this; exact this
theorem one_iff {N : Nat} {s : Int} (hs : 0 ≤ s ∧ s < (N : Int)) {q : Int} (hq : 0 ≤ q) : lget (lset (List.replicate N false) s true) q = true ↔ q = s := by
  rw [lget_lsetB _ _ _ true hs.1 (by simp; omega) hq]
  by_cases e : q = s
  · simp [e]
  · rw [if_neg e, lget_repB]; simp [e]
theorem reached_eq {d : S50} (h : Dr d) (s : Int) : ∃ R, dfa_Reached 2000 d s = some R ∧ RS d s R := by
  have hn := h.n2
  unfold dfa_Reached
  rw [if_pos ⟨by omega, by omega, by omega⟩, Int.toNat_natCast]
  by_cases a : s < 0
  · rw [if_pos a, Option.bind_some, if_pos rfl]
    exact ⟨_, rfl, by simp, fun q h0 h1 => by rw [lget_repB]; simp; omega⟩
  by_cases b : (d.f1.length : Int) ≤ s
  · rw [if_neg a, Option.bind_some, if_pos (by simpa using b)]
    exact ⟨_, rfl, by simp, fun q h0 h1 => by rw [lget_repB]; simp; omega⟩
  have hs : 0 ≤ s ∧ s < (d.f1.length : Int) := ⟨by omega, by omega⟩
  rw [if_neg a, Option.bind_some, if_neg (by simpa using b), if_pos ⟨by omega, by simp; omega⟩]
  obtain ⟨R, r1, r2, r3⟩ := reach_l3 h hs 2000 (lset (List.replicate d.f1.length false) s true) [s]
    ⟨by rw [lset_len, List.length_replicate], fun q hq => by
      have : q = s := by simpa using hq
      subst this
      exact ⟨hs.1, hs.2, (one_iff hs hs.1).2 rfl⟩, fun q hq hg => by rw [(one_iff hs hq).1 hg]; exact .refl, fun p h0 h1 hg => .inl (by rw [(one_iff hs h0).1 hg]; simp), (one_iff hs hs.1).2 rfl⟩ (by rw [cnt_one hs]; simp; omega) (by simp; omega)
  exact ⟨R, r1, r2, fun q h0 h1 => by rw [r3 q h0]; exact ⟨fun k => ⟨hs, k⟩, fun k => k.2⟩⟩
/-! The document's walk: rounds. -/
def sL (l : List Int) (x : List Bool) : List Bool := l.foldl (fun x q => if 0 ≤ q then lset x q true else x) x
theorem sL_len : ∀ (l : List Int) (x : List Bool), (sL l x).length = x.length
  | [], _ => rfl
  | q :: l, x => by
    show (sL l (if 0 ≤ q then lset x q true else x)).length = _
    rw [sL_len l]
    split
    · exact lset_len _ _ _
    · rfl
theorem sL_iff {N : Int} {q : Int} (hq : 0 ≤ q) : ∀ (l : List Int) (x : List Bool), (∀ q ∈ l, q < N) → (x.length : Int) = N → (lget (sL l x) q = true ↔ lget x q = true ∨ q ∈ l)
  | [], x, _, _ => by simp [sL]
  | p :: l, x, h, hx => by
    have hp := h p (by simp)
    have ih := sL_iff hq l (if 0 ≤ p then lset x p true else x) (fun q hq => h q (by simp [hq])) (by split <;> simp [lset_len, hx])
    show lget (sL l (if 0 ≤ p then lset x p true else x)) q = true ↔ _
    rw [ih]
    by_cases a : 0 ≤ p
    · rw [if_pos a, lget_lsetB x p q true a (by omega) hq]
      by_cases e : q = p
      · simp [e]
      · rw [if_neg e]; simp [e]
    · rw [if_neg a]
      have : q ≠ p := by omega
      simp [this]
def rp (d : S50) (i : Nat) (x : List Bool) : List Bool := if lget x (i : Int) = true then sL (rw' d i) x else x
def rnd (d : S50) : Nat → Nat → List Bool → List Bool
  | 0, _, x => x
  | m + 1, i, x => rnd d m (i + 1) (rp d i x)
theorem rp_len (d : S50) (i : Nat) (x : List Bool) : (rp d i x).length = x.length := by
  unfold rp; split
  · exact sL_len _ _
  · rfl
theorem rnd_len (d : S50) : ∀ (m i : Nat) (x : List Bool), (rnd d m i x).length = x.length
  | 0, _, _ => rfl
  | m + 1, i, x => by rw [rnd, rnd_len d m, rp_len]
theorem row_lt {d : S50} (h : Dr d) {p : Int} (h0 : 0 ≤ p) (h1 : p < (d.f1.length : Int)) : ∀ q ∈ rw' d p, q < (d.f1.length : Int) := fun q hq => (h.ent _ (mem_lget h0 h1) q hq).2
theorem rp_le {d : S50} (h : Dr d) {i : Nat} (hi : i < d.f1.length) {x : List Bool} (hx : x.length = d.f1.length) : LE x (rp d i x) := by
  unfold rp; split
  · intro q hq hg
    exact (sL_iff (N := (d.f1.length : Int)) hq _ _ (row_lt h (by omega) (by omega)) (by rw [hx])).2 (.inl hg)
  · exact LE.refl x
theorem rnd_le {d : S50} (h : Dr d) : ∀ (m i : Nat) (x : List Bool), i + m = d.f1.length → x.length = d.f1.length → LE x (rnd d m i x)
  | 0, _, x, _, _ => LE.refl x
  | m + 1, i, x, hi, hx => by
    rw [rnd]
    exact (rp_le h (by omega) hx).trans (rnd_le h m (i + 1) _ (by omega) (by rw [rp_len]; exact hx))
theorem LE.antisymm {x y : List Bool} (hl : x.length = y.length) (h : LE x y) (k : LE y x) : x = y := lext hl fun q h0 h1 => ⟨h q h0, k q h0⟩
theorem rnd_fix {d : S50} (h : Dr d) : ∀ (m i : Nat) (x : List Bool), i + m = d.f1.length → x.length = d.f1.length → rnd d m i x = x → ∀ j : Nat, i ≤ j → j < d.f1.length → lget x (j : Int) = true → ∀ q ∈ rw' d (j : Int), 0 ≤ q → lget x q = true
  | 0, i, x, hi, hx, _, j, h1, h2, _, q, hq, h0 => by omega
  | m + 1, i, x, hi, hx, e, j, h1, h2, hg, q, hq, h0 => by
    rw [rnd] at e
    have l1 := rp_le h (i := i) (by omega) hx
    have l2 := rnd_le h m (i + 1) (rp d i x) (by omega) (by rw [rp_len]; exact hx)
    rw [e] at l2
    have ex : rp d i x = x := LE.antisymm (rp_len _ _ _) l2 l1
    by_cases a : j = i
    · subst a
      unfold rp at ex
      rw [if_pos hg] at ex
      rw [← ex]
      exact (sL_iff (N := (d.f1.length : Int)) h0 _ _ (row_lt h (by omega) (by omega)) (by rw [hx])).2 (.inr hq)
    · rw [ex] at e
      exact rnd_fix h m (i + 1) x (by omega) hx e j (by omega) h2 hg q hq h0
def its (d : S50) : Nat → List Bool → List Bool
  | 0, x => x
  | k + 1, x => its d k (rnd d d.f1.length 0 x)
theorem its_len (d : S50) : ∀ (k : Nat) (x : List Bool), (its d k x).length = x.length
  | 0, _ => rfl
  | k + 1, x => by rw [its, its_len d k, rnd_len]
theorem its_fix {d : S50} : ∀ (k : Nat) (x : List Bool), rnd d d.f1.length 0 x = x → its d k x = x
  | 0, _, _ => rfl
  | k + 1, x, h => by rw [its, h, its_fix k x h]
theorem its_done {d : S50} (h : Dr d) : ∀ (k : Nat) (x : List Bool), x.length = d.f1.length → d.f1.length - cnt x ≤ k → rnd d d.f1.length 0 (its d k x) = its d k x
  | 0, x, hx, hk => by
    have l := rnd_le h d.f1.length 0 x (by omega) hx
    have hl := rnd_len d d.f1.length 0 x
    rcases LE.cnt l hl.symm with e | e
    · exact e.symm
    · have := cnt_le_len (hl.trans hx); omega
  | k + 1, x, hx, hk => by
    have l := rnd_le h d.f1.length 0 x (by omega) hx
    have hl := rnd_len d d.f1.length 0 x
    rcases LE.cnt l hl.symm with e | e
    · rw [its_fix (k + 1) x e.symm]; exact e.symm
    · rw [its]
      have := cnt_le_len (hl.trans hx)
      exact its_done h k _ (hl.trans hx) (by omega)
theorem rnd_snd {d : S50} (h : Dr d) {s : Int} (hs : 0 ≤ s ∧ s < (d.f1.length : Int)) : ∀ (m i : Nat) (x : List Bool), i + m = d.f1.length → x.length = d.f1.length → (∀ q, 0 ≤ q → lget x q = true → DR d s q) → ∀ q, 0 ≤ q → lget (rnd d m i x) q = true → DR d s q
  | 0, _, x, _, _, hq => hq
  | m + 1, i, x, hi, hx, hq => by
    rw [rnd]
    refine rnd_snd h hs m (i + 1) _ (by omega) (by rw [rp_len]; exact hx) fun q h0 hg => ?_
    unfold rp at hg
    split at hg
    · rename_i c
      rcases (sL_iff (N := (d.f1.length : Int)) h0 _ _ (row_lt h (by omega) (by omega)) (by rw [hx])).1 hg with k | k
      · exact hq q h0 k
      · obtain ⟨c', hc, rfl⟩ := lget_mem k
        exact .step (hq _ (by omega) c) (by omega) h0
    · exact hq q h0 hg
theorem its_snd {d : S50} (h : Dr d) {s : Int} (hs : 0 ≤ s ∧ s < (d.f1.length : Int)) : ∀ (k : Nat) (x : List Bool), x.length = d.f1.length → (∀ q, 0 ≤ q → lget x q = true → DR d s q) → ∀ q, 0 ≤ q → lget (its d k x) q = true → DR d s q
  | 0, x, _, hq => hq
  | k + 1, x, hx, hq => by
    rw [its]
    exact its_snd h hs k _ (by rw [rnd_len]; exact hx) (rnd_snd h hs d.f1.length 0 x (by omega) hx hq)
theorem its_le {d : S50} (h : Dr d) : ∀ (k : Nat) (x : List Bool), x.length = d.f1.length → LE x (its d k x)
  | 0, x, _ => LE.refl x
  | k + 1, x, hx => by
    rw [its]
    exact (rnd_le h d.f1.length 0 x (by omega) hx).trans (its_le h k _ (by rw [rnd_len]; exact hx))
theorem rreach_l4 {d : S50} (h : Dr d) (rec20 : List Bool → Int → Option (List Bool)) (i : Nat) (hi : i < d.f1.length) : ∀ (m c fuel : Nat) (x : List Bool), c + m = (rw' d i).length → m < fuel → x.length = d.f1.length → lget x (i : Int) = true →
    bosketref08_Reached_l4 2000 rec20 d (i : Int) fuel x (c : Int) = bosketref08_Reached_c2 2000 rec20 (i : Int) (sL ((rw' d i).drop c) x)
  | 0, c, f + 1, x, hc, _, hx, hg => by
    have g : 0 ≤ (i : Int) ∧ (i : Int) < (x.length : Int) := ⟨by omega, by omega⟩
    have hcn : ¬ (c : Int) < ((lget d.f1 (i : Int)).length : Int) := by
      have : ¬ (c : Int) < ((rw' d i).length : Int) := by omega
      exact this
    rw [bosketref08_Reached_l4.eq_2, if_pos g, if_pos hg, if_pos ⟨by omega, by omega⟩, Option.bind_some, if_neg (by simpa using hcn), List.drop_of_length_le (by omega)]; rfl
  | m + 1, c, f + 1, x, hc, hf, hx, hg => by
    have hc' : c < (rw' d i).length := by omega
    have hcI : (c : Int) < ((lget d.f1 (i : Int)).length : Int) := by
      have : (c : Int) < ((rw' d i).length : Int) := by omega
      exact this
    have he := h.entk (i := (i : Int)) (by omega) (by omega) (c := (c : Int)) (by omega) hcI
    have h256 : (rw' d i).length ≤ 256 := h.row256 _ (mem_lget (l := d.f1) (i := (i : Int)) (by omega) (by omega))
    have hn := h.n2
    have g : 0 ≤ (i : Int) ∧ (i : Int) < (x.length : Int) := ⟨by omega, by omega⟩
    have g1 : 0 ≤ (i : Int) ∧ (i : Int) < (d.f1.length : Int) := ⟨by omega, by omega⟩
    have ge : lget (lget d.f1 (i : Int)) (c : Int) = (rw' d i)[c] := lget_lt (rw' d i) c hc'
    rw [bosketref08_Reached_l4.eq_2, if_pos g, if_pos hg, if_pos g1, Option.bind_some, if_pos (by simpa using hcI), if_pos g1, if_pos ⟨by omega, hcI⟩, List.drop_eq_getElem_cons hc']
    show _ = bosketref08_Reached_c2 2000 rec20 (i : Int) (sL ((rw' d i).drop (c + 1)) (if 0 ≤ (rw' d i)[c] then lset x (rw' d i)[c] true else x))
    rw [← ge]
    generalize lget (lget d.f1 (i : Int)) (c : Int) = q at he
    by_cases a : 0 ≤ q
    · rw [if_pos a, if_pos ⟨a, by omega⟩, if_pos a, bosketref08_Reached_c3, w64s (by omega) (by omega)]
      have ih := rreach_l4 h rec20 i hi m (c + 1) f (lset x q true) (by omega) (by omega) (by rw [lset_len]; exact hx) (LE.set a (by omega) _ (by omega) hg)
      exact_mod_cast ih
    · rw [if_neg a, if_neg a, bosketref08_Reached_c3, w64s (by omega) (by omega)]
      have ih := rreach_l4 h rec20 i hi m (c + 1) f x (by omega) (by omega) hx hg
      exact_mod_cast ih
theorem rreach_l5 {d : S50} (h : Dr d) (rec14 : List Bool → Int → Option (List Bool)) (x13 : Int) : ∀ (m i fuel : Nat) (x : List Bool), i + m = d.f1.length → m < fuel → x.length = d.f1.length →
    bosketref08_Reached_l5 2000 rec14 d x13 fuel x (i : Int) = bosketref08_Reached_c1 2000 rec14 x13 (rnd d m i x)
  | 0, i, f + 1, x, hi, _, hx => by
    rw [bosketref08_Reached_l5.eq_2, if_neg (by omega)]; rfl
  | m + 1, i, f + 1, x, hi, hf, hx => by
    have hn := h.n2
    have ih := fun y hy => rreach_l5 h rec14 x13 m (i + 1) f y (by omega) (by omega) hy
    rw [bosketref08_Reached_l5.eq_2, if_pos (by omega), rnd]
    unfold rp
    by_cases a : lget x (i : Int) = true
    · have h256 : (rw' d i).length ≤ 256 := h.row256 _ (mem_lget (l := d.f1) (i := (i : Int)) (by omega) (by omega))
      have e := rreach_l4 h (bosketref08_Reached_l5 2000 rec14 d x13 f) i (by omega) (rw' d i).length 0 2000 x (by omega) (by omega) hx a
      rw [Int.natCast_zero, List.drop_zero] at e
      rw [e, if_pos a, bosketref08_Reached_c2, w64s (by omega) (by omega)]
      exact_mod_cast ih _ (by rw [sL_len]; exact hx)
    · rw [if_neg a, bosketref08_Reached_l4.eq_2, if_pos ⟨by omega, by omega⟩, if_neg a, Option.bind_some, if_neg (by decide), bosketref08_Reached_c2, w64s (by omega) (by omega)]
      exact_mod_cast ih x hx
theorem rreach_l6 {d : S50} (h : Dr d) : ∀ (m k fuel : Nat) (x : List Bool), k + m = d.f1.length → m < fuel → x.length = d.f1.length → bosketref08_Reached_l6 2000 d fuel x (k : Int) = some (its d m x)
  | 0, k, f + 1, x, hi, _, hx => by
    rw [bosketref08_Reached_l6.eq_2, if_neg (by omega)]; rfl
  | m + 1, k, f + 1, x, hi, hf, hx => by
    have hn := h.n2
    have ih := rreach_l6 h m (k + 1) f (rnd d d.f1.length 0 x) (by omega) (by omega) (by rw [rnd_len]; exact hx)
    have e := rreach_l5 h (bosketref08_Reached_l6 2000 d f) (k : Int) d.f1.length 0 2000 x (by omega) (by omega) hx
    rw [Int.natCast_zero] at e
    rw [bosketref08_Reached_l6.eq_2, if_pos (by omega), e, bosketref08_Reached_c1, w64s (by omega) (by omega), its]
    exact_mod_cast ih
theorem rreached_eq {d : S50} (h : Dr d) (s : Int) : ∃ R, bosketref08_Reached 2000 d s = some R ∧ RS d s R := by
  have hn := h.n2
  unfold bosketref08_Reached
  rw [if_pos ⟨by omega, by omega, by omega⟩, Int.toNat_natCast]
  by_cases a : s < 0
  · rw [if_pos a, Option.bind_some, if_pos rfl]
    exact ⟨_, rfl, by simp, fun q h0 h1 => by rw [lget_repB]; simp; omega⟩
  by_cases b : (d.f1.length : Int) ≤ s
  · rw [if_neg a, Option.bind_some, if_pos (by simpa using b)]
    exact ⟨_, rfl, by simp, fun q h0 h1 => by rw [lget_repB]; simp; omega⟩
  have hs : 0 ≤ s ∧ s < (d.f1.length : Int) := ⟨by omega, by omega⟩
  have hx : (lset (List.replicate d.f1.length false) s true).length = d.f1.length := by rw [lset_len, List.length_replicate]
  rw [if_neg a, Option.bind_some, if_neg (by simpa using b), if_pos ⟨by omega, by simp; omega⟩]
  have e := rreach_l6 h d.f1.length 0 2000 _ (by omega) (by omega) hx
  rw [Int.natCast_zero] at e
  refine ⟨_, e, by rw [its_len]; exact hx, fun q h0 h1 => ⟨fun hg => ⟨hs, its_snd h hs d.f1.length _ hx (fun q h0 hg => by rw [(one_iff hs h0).1 hg]; exact .refl) q h0 hg⟩, fun ⟨_, k⟩ => ?_⟩⟩
  have hd := its_done h d.f1.length _ hx (by omega)
  have hfix := rnd_fix h d.f1.length 0 _ (by omega) (by rw [its_len]; exact hx) hd
  clear h0 h1
  induction k with
  | refl => exact its_le h d.f1.length _ hx s hs.1 ((one_iff hs hs.1).2 rfl)
  | @step p c k hc h0 ih =>
    have hp := k.in h hs
    obtain ⟨j, rfl⟩ := Int.eq_ofNat_of_zero_le hp.1
    exact hfix j (by omega) (by omega) (ih ⟨hs, k⟩) _ (mem_lget (by omega) hc) h0
end Go.Avl.T3
