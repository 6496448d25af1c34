/- Parts: T7W, T7G0, T7S1, T7P1, T7P2, T7P3, T7C1, T7C2, T7A0, T7N1, T7N2, T7M1, T7M2, T7M3, T7M4. -/
import Derived.Test.YtpkgpmmcbpfenaaAF1
import Derived.Test.YtpkgpmmcbpfenaaAv3
import Derived.Test.YtpkgpmmcbpfenaaAF8
import Derived.Test.YtpkgpmmcbpfenaaAF5
import Derived.Laws.Bits64b
import Derived.Test.YtpkgpmmcbpfenaaAF2
import Derived.Test.YtpkgpmmcbpfenaaAF3
import Derived.Test.YtpkgpmmcbpfenaaAF4
import Derived.Test.YtpkgpmmcbpfenaaAF6
/- Opening of the arguments; printed by avlaw.py. -/
namespace Go.Avl.T7
open Go Go.RowKit Go.Proofs Go.Avl
set_option linter.unusedVariables false
set_option maxRecDepth 100000
abbrev e22 (l : List S82) : AV := .fz 3 (l.map e82)
abbrev e23 (l : List ByteArray) : AV := .fz 1 (l.map eStr)
abbrev e34 (l : List S41) : AV := .fz 2 (l.map e41)
abbrev e24 (l : List S37) : AV := .fz 6 (l.map e37)
abbrev e25 (l : List S86) : AV := .fz 2 (l.map e86)
abbrev wf9 : ByteArray → Prop := (fun s : ByteArray => s.size ≤ 9223372036854775807)
theorem op9 : Opens Try.prog 9 eStr wf9 := opens_string Try.underlying9
abbrev wf3 : Int → Prop := (fun n : Int => (Lit.int .i64 n).wf = true)
theorem op3 : Opens Try.prog 3 eI64 wf3 := opens_int Try.underlying3
abbrev wf82 : S82 → Prop := (fun x : S82 => wf9 x.f0 ∧ wf3 x.f1 ∧ wf9 x.f2)
theorem op82 : Opens Try.prog 82 e82 wf82 := (opens_struct Try.underlying82 sz82 (opensF_cons rfl sz9 (by decide) op9 (opensF_cons rfl sz3 (by decide) op3 (opensF_cons rfl sz9 (by decide) op9 (opensF_nil _))))).map (fun p => S82.mk p.1 p.2.1 p.2.2.1) (fun _ => rfl) (fun _ h => ⟨h.1, h.2.1, h.2.2.1⟩)
abbrev wf22 : (List S82) → Prop := (fun l : List S82 => l.length ≤ 9223372036854775807 ∧ ∀ a ∈ l, wf82 a)
theorem op22 : Opens Try.prog 22 e22 wf22 := opens_slice Try.underlying22 sz82 op82
abbrev wf23 : (List ByteArray) → Prop := (fun l : List ByteArray => l.length ≤ 9223372036854775807 ∧ ∀ a ∈ l, wf9 a)
theorem op23 : Opens Try.prog 23 e23 wf23 := opens_slice Try.underlying23 sz9 op9
abbrev wf4 : Bool → Prop := (fun _ : Bool => True)
theorem op4 : Opens Try.prog 4 eBool wf4 := opens_bool Try.underlying4
abbrev wf41 : S41 → Prop := (fun x : S41 => wf4 x.f0 ∧ wf3 x.f1)
theorem op41 : Opens Try.prog 41 e41 wf41 := (opens_struct Try.underlying41 sz41 (opensF_cons rfl sz4 (by decide) op4 (opensF_cons rfl sz3 (by decide) op3 (opensF_nil _)))).map (fun p => S41.mk p.1 p.2.1) (fun _ => rfl) (fun _ h => ⟨h.1, h.2.1⟩)
abbrev wf34 : (List S41) → Prop := (fun l : List S41 => l.length ≤ 9223372036854775807 ∧ ∀ a ∈ l, wf41 a)
theorem op34 : Opens Try.prog 34 e34 wf34 := opens_slice Try.underlying34 sz41 op41
abbrev wf35 : (List Int) → Prop := (fun l : List Int => l.length ≤ 9223372036854775807 ∧ ∀ a ∈ l, wf3 a)
theorem op35 : Opens Try.prog 35 e35 wf35 := opens_slice Try.underlying35 sz3 op3
abbrev wf37 : S37 → Prop := (fun x : S37 => wf3 x.f0 ∧ wf9 x.f1 ∧ wf34 x.f2 ∧ wf4 x.f3 ∧ wf3 x.f4 ∧ wf35 x.f5)
theorem op37 : Opens Try.prog 37 e37 wf37 := (opens_struct Try.underlying37 sz37 (opensF_cons rfl sz3 (by decide) op3 (opensF_cons rfl sz9 (by decide) op9 (opensF_cons rfl sz34 (by decide) op34 (opensF_cons rfl sz4 (by decide) op4 (opensF_cons rfl sz3 (by decide) op3 (opensF_cons rfl sz35 (by decide) op35 (opensF_nil _)))))))).map (fun p => S37.mk p.1 p.2.1 p.2.2.1 p.2.2.2.1 p.2.2.2.2.1 p.2.2.2.2.2.1) (fun _ => rfl) (fun _ h => ⟨h.1, h.2.1, h.2.2.1, h.2.2.2.1, h.2.2.2.2.1, h.2.2.2.2.2.1⟩)
abbrev wf24 : (List S37) → Prop := (fun l : List S37 => l.length ≤ 9223372036854775807 ∧ ∀ a ∈ l, wf37 a)
theorem op24 : Opens Try.prog 24 e24 wf24 := opens_slice Try.underlying24 sz37 op37
abbrev wf86 : S86 → Prop := (fun x : S86 => wf3 x.f0 ∧ wf35 x.f1)
theorem op86 : Opens Try.prog 86 e86 wf86 := (opens_struct Try.underlying86 sz86 (opensF_cons rfl sz3 (by decide) op3 (opensF_cons rfl sz35 (by decide) op35 (opensF_nil _)))).map (fun p => S86.mk p.1 p.2.1) (fun _ => rfl) (fun _ h => ⟨h.1, h.2.1⟩)
abbrev wf25 : (List S86) → Prop := (fun l : List S86 => l.length ≤ 9223372036854775807 ∧ ∀ a ∈ l, wf86 a)
theorem op25 : Opens Try.prog 25 e25 wf25 := opens_slice Try.underlying25 sz86 op86
abbrev wf27 : S27 → Prop := (fun x : S27 => wf22 x.f0 ∧ wf23 x.f1 ∧ wf24 x.f2 ∧ wf25 x.f3 ∧ wf3 x.f4)
theorem op27 : Opens Try.prog 27 e27 wf27 := (opens_struct Try.underlying27 sz27 (opensF_cons rfl sz22 (by decide) op22 (opensF_cons rfl sz23 (by decide) op23 (opensF_cons rfl sz24 (by decide) op24 (opensF_cons rfl sz25 (by decide) op25 (opensF_cons rfl sz3 (by decide) op3 (opensF_nil _))))))).map (fun p => S27.mk p.1 p.2.1 p.2.2.1 p.2.2.2.1 p.2.2.2.2.1) (fun _ => rfl) (fun _ h => ⟨h.1, h.2.1, h.2.2.1, h.2.2.2.1, h.2.2.2.2.1⟩)
abbrev wf5 : Int → Prop := (fun n : Int => (Lit.int .u8 n).wf = true)
theorem op5 : Opens Try.prog 5 eU8 wf5 := opens_int Try.underlying5
end Go.Avl.T7
/- The examples of the pages. -/
namespace Go.Avl.T7
open Go Go.RowKit Go.Proofs Go.Avl
set_option linter.all false
set_option maxRecDepth 10000
theorem awake17 : F9 5000 = some true := by decide +kernel
end Go.Avl.T7
/- Ported: texts between quotes. -/
namespace Go.Avl.T7
open Go Go.RowKit Go.Proofs Go.Avl
set_option linter.all false
set_option maxRecDepth 10000

def U (a : Vector Int 4) : Prop := ∀ j : Nat, j < 4 → 0 ≤ vget a (j : Int) ∧ vget a (j : Int) < 18446744073709551616
def wd (a : Vector Int 4) (j : Nat) : Nat := (vget a (j : Int)).toNat
/-- Is a byte in a set? -/
def tb (a : Vector Int 4) (b : Nat) : Bool := (wd a (b / 64)).testBit (b % 64)
theorem wd_eq {a : Vector Int 4} (h : U a) (j : Nat) (hj : j < 4) : vget a (j : Int) = (wd a j : Int) ∧ wd a j < 18446744073709551616 := by
  have := h j hj
  unfold wd; omega
theorem vget_vset (v : Vector Int 4) (i j : Nat) (x : Int) (hi : i < 4) (hj : j < 4) : vget (vset v (i : Int) x) (j : Int) = if j = i then x else vget v (j : Int) := by
  unfold vget vset
  rw [Int.toNat_natCast, Int.toNat_natCast, Vector.toList_setIfInBounds, List.getD, List.getD, List.getElem?_set]
  by_cases e : i = j
  · subst e; rw [if_pos rfl, if_pos rfl, if_pos (by simpa using hi)]; rfl
  · rw [if_neg e, if_neg (fun h => e h.symm)]
theorem U_zero : U (Vector.replicate 4 (0 : Int)) := by
  intro j hj
  have : vget (Vector.replicate 4 (0 : Int)) (j : Int) = 0 := by
    have : j = 0 ∨ j = 1 ∨ j = 2 ∨ j = 3 := by omega
    rcases this with rfl | rfl | rfl | rfl <;> rfl
  rw [this]; omega
theorem shr_eq (x k : Nat) (hk : k ≤ 64) : Int.fdiv (x : Int) (2 ^ (min (k : Int).toNat IntKind.u64.bits)) = ((x / 2 ^ k : Nat) : Int) := by
  rw [Int.toNat_natCast, show min k IntKind.u64.bits = k by show min k 64 = k; omega, Int.fdiv_eq_ediv_of_nonneg _ (by exact_mod_cast Nat.zero_le _)]
  norm_cast
theorem tmod64 (i : Nat) : (i : Int).tmod 64 = ((i % 64 : Nat) : Int) := by rw [Int.tmod_eq_emod_of_nonneg (by omega)]; omega
theorem ix_u8 (i : Nat) (hi : i < 256) : IntKind.u8.wrap ((i : Int).tdiv 64) = ((i / 64 : Nat) : Int) := by
  have h1 : (i : Int).tdiv 64 = ((i / 64 : Nat) : Int) := by rw [Int.tdiv_eq_ediv_of_nonneg (by omega)]; omega
  rw [h1]; have := w8_id (n := ((i / 64 : Nat) : Int)) (by omega) (by omega); exact this
theorem has_eq {a : Vector Int 4} (ha : U a) {x : Nat} (hx : x < 256) : F125 5000 a (x : Int) = some (tb a x) := by
  obtain ⟨e, l⟩ := wd_eq ha (x / 64) (by omega)
  unfold F125
  rw [ix_u8 x hx, tmod64, if_pos ⟨by omega, by omega⟩, if_pos (by omega), e, shr_eq _ (x % 64) (by omega)]
  have hb := bits_and_u64_nat (wd a (x / 64) / 2 ^ (x % 64)) 1 (Nat.lt_of_le_of_lt (Nat.div_le_self _ _) l) (by omega)
  have hb' : bits .and .u64 ((wd a (x / 64) / 2 ^ (x % 64) : Nat) : Int) 1 = _ := hb
  rw [hb']
  unfold tb
  congr 1
  rw [Nat.and_one_is_mod]
  have h2 : (wd a (x / 64)).testBit (x % 64) = (wd a (x / 64) / 2 ^ (x % 64)).testBit 0 := by
    rw [Nat.testBit_div_two_pow, Nat.zero_add]
  rw [h2, Nat.testBit_zero, decide_eq_decide]
  omega
end Go.Avl.T7
/- Sets of bytes: all operations answer, with words that are words. -/
namespace Go.Avl.T7
open Go Go.RowKit Go.Proofs Go.Avl
set_option linter.all false
set_option maxRecDepth 10000

theorem u64_rng (x : Int) : 0 ≤ IntKind.u64.wrap x ∧ IntKind.u64.wrap x < 18446744073709551616 := by
  have h1 := Int.emod_nonneg x (show (18446744073709551616 : Int) ≠ 0 by decide)
  have h2 := Int.emod_lt_of_pos x (show (0 : Int) < 18446744073709551616 by decide)
  have e : IntKind.u64.wrap x = x % 18446744073709551616 := rfl
  rw [e]; exact ⟨h1, h2⟩
theorem or_rng (m n : Int) : 0 ≤ bits .or .u64 m n ∧ bits .or .u64 m n < 18446744073709551616 := u64_rng _
theorem an_rng (m n : Int) : 0 ≤ bits .andNot .u64 m n ∧ bits .andNot .u64 m n < 18446744073709551616 := u64_rng _
theorem U_vset {a : Vector Int 4} (h : U a) {i : Nat} (hi : i < 4) {x : Int} (hx : 0 ≤ x ∧ x < 18446744073709551616) : U (vset a (i : Int) x) := by
  intro j hj
  rw [vget_vset a i j x hi hj]
  split
  · exact hx
  · exact h j hj
theorem w6t {x : Int} (h0 : -1000000000000 ≤ x) (h1 : x ≤ 1000000000000) : w64 x = x := w64_id (by omega) (by omega)
theorem or_tot (p1 : Vector Int 4) : ∀ (m i fuel : Nat) (a : Vector Int 4), i + m = 4 → m < fuel → U a → ∃ c, F145_l1 5000 p1 fuel a (i : Int) = some c ∧ U c
  | 0, i, fu + 1, a, hi, _, ha => ⟨a, by rw [F145_l1.eq_2, if_neg (by omega)]; rfl, ha⟩
  | m + 1, i, fu + 1, a, hi, hf, ha => by
    have g : 0 ≤ (i : Int) ∧ (i : Int) < 4 := ⟨by omega, by omega⟩
    obtain ⟨c, c1, c2⟩ := or_tot p1 m (i + 1) fu _ (by omega) (by omega) (U_vset ha (show i < 4 by omega) (or_rng (vget a (i : Int)) (vget p1 (i : Int))))
    refine ⟨c, ?_, c2⟩
    rw [F145_l1.eq_2, if_pos g.2, if_pos g, w6t (by omega) (by omega)]
    simp only [g, and_self, if_true]
    exact_mod_cast c1
theorem less_tot (p1 : Vector Int 4) : ∀ (m i fuel : Nat) (a : Vector Int 4), i + m = 4 → m < fuel → U a → ∃ c, F149_l1 5000 p1 fuel a (i : Int) = some c ∧ U c
  | 0, i, fu + 1, a, hi, _, ha => ⟨a, by rw [F149_l1.eq_2, if_neg (by omega)]; rfl, ha⟩
  | m + 1, i, fu + 1, a, hi, hf, ha => by
    have g : 0 ≤ (i : Int) ∧ (i : Int) < 4 := ⟨by omega, by omega⟩
    obtain ⟨c, c1, c2⟩ := less_tot p1 m (i + 1) fu _ (by omega) (by omega) (U_vset ha (show i < 4 by omega) (an_rng (vget a (i : Int)) (vget p1 (i : Int))))
    refine ⟨c, ?_, c2⟩
    rw [F149_l1.eq_2, if_pos g.2, if_pos g, w6t (by omega) (by omega)]
    simp only [g, and_self, if_true]
    exact_mod_cast c1
theorem U_full : U (vset (vset (vset (vset (Vector.replicate 4 (0 : Int)) (0 : Int) (18446744073709551615 : Int)) (1 : Int) (18446744073709551615 : Int)) (2 : Int) (18446744073709551615 : Int)) (3 : Int) (18446744073709551615 : Int)) := by
  have r : (0 : Int) ≤ 18446744073709551615 ∧ (18446744073709551615 : Int) < 18446744073709551616 := by decide
  exact U_vset (i := 3) (U_vset (i := 2) (U_vset (i := 1) (U_vset (i := 0) U_zero (by omega) r) (by omega) r) (by omega) r) (by omega) r
theorem full_tot : ∃ c, F142 5000 = some c ∧ U c := ⟨_, rfl, U_full⟩
theorem ors_tot {a : Vector Int 4} (h : U a) (b : Vector Int 4) : ∃ c, F145 5000 a b = some c ∧ U c := or_tot b 4 0 5000 a (by omega) (by omega) h
theorem not_tot (a : Vector Int 4) : ∃ c, F147 5000 a = some c ∧ U c := by
  obtain ⟨c, c1, c2⟩ := less_tot a 4 0 5000 _ (by omega) (by omega) U_full
  refine ⟨c, ?_, c2⟩
  have e : F149 5000 (vset (vset (vset (vset (Vector.replicate 4 (0 : Int)) (0 : Int) (18446744073709551615 : Int)) (1 : Int) (18446744073709551615 : Int)) (2 : Int) (18446744073709551615 : Int)) (3 : Int) (18446744073709551615 : Int)) a = some c := c1
  unfold F147 F142
  rw [Option.bind_some, e, Option.bind_some]
theorem range_tot (t : Nat) (ht : t < 256) : ∀ (m i fuel : Nat) (a : Vector Int 4), t + 1 - i = m → m < fuel → i ≤ 256 → U a → ∃ c, F146_l1 5000 (t : Int) fuel a (i : Int) = some c ∧ U c
  | 0, i, fu + 1, a, hi, _, _, ha => ⟨a, by rw [F146_l1.eq_2, w6t (x := (t : Int)) (by omega) (by omega), if_neg (by omega)]; rfl, ha⟩
  | m + 1, i, fu + 1, a, hi, hf, hz, ha => by
    have e1 : IntKind.i64.wrap ((i : Int).tdiv 64) = ((i / 64 : Nat) : Int) := by
      have : (i : Int).tdiv 64 = ((i / 64 : Nat) : Int) := rfl
      rw [this]; exact w6t (by omega) (by omega)
    obtain ⟨c, c1, c2⟩ := range_tot t ht m (i + 1) fu _ (by omega) (by omega) (by omega) (U_vset ha (show i / 64 < 4 by omega) (or_rng (vget a ((i / 64 : Nat) : Int)) (IntKind.u64.wrap ((1 : Int) * 2 ^ (min (u64 ((i : Int).tmod (64 : Int))).toNat IntKind.u64.bits)))))
    refine ⟨c, ?_, c2⟩
    have g : 0 ≤ ((i / 64 : Nat) : Int) ∧ ((i / 64 : Nat) : Int) < 4 := ⟨by omega, by omega⟩
    rw [F146_l1.eq_2, w6t (x := (t : Int)) (by omega) (by omega), if_pos (by omega), e1, if_pos g, if_pos (show (0 : Int) ≤ u64 ((i : Int).tmod 64) from (u64_rng _).1), if_pos g, w6t (by omega) (by omega)]
    exact_mod_cast c1
theorem ranges_tot {f t : Nat} (hf : f < 256) (ht : t < 256) : ∃ c, F146 5000 (f : Int) (t : Int) = some c ∧ U c := by
  obtain ⟨c, c1, c2⟩ := range_tot t ht (t + 1 - f) f 5000 _ rfl (by omega) (by omega) U_zero
  refine ⟨c, ?_, c2⟩
  unfold F146
  rw [w6t (x := (f : Int)) (by omega) (by omega)]
  exact c1
theorem of1_tot {b : Nat} (hb : b < 256) : ∃ c, F61 5000 [(b : Int)] = some c ∧ U c := by
  have e1 : IntKind.u8.wrap ((b : Int).tdiv 64) = ((b / 64 : Nat) : Int) := by
    have : (b : Int).tdiv 64 = ((b / 64 : Nat) : Int) := rfl
    rw [this]; exact w8_id (by omega) (by omega)
  have g : 0 ≤ ((b / 64 : Nat) : Int) ∧ ((b / 64 : Nat) : Int) < 4 := ⟨by omega, by omega⟩
  have hm : (0 : Int) ≤ (b : Int).tmod 64 := by
    have : (b : Int).tmod 64 = ((b % 64 : Nat) : Int) := rfl
    omega
  have hl : lget [(b : Int)] (0 : Int) = (b : Int) := rfl
  have key : F61 5000 [(b : Int)] = some (vset (Vector.replicate 4 (0 : Int)) ((b / 64 : Nat) : Int) (bits .or .u64 (vget (Vector.replicate 4 (0 : Int)) ((b / 64 : Nat) : Int)) (IntKind.u64.wrap ((1 : Int) * 2 ^ (min ((b : Int).tmod (64 : Int)).toNat IntKind.u64.bits))))) := by
    unfold F61
    rw [show (5000 : Nat) = 4998 + 1 + 1 from rfl, F61_l1.eq_2, if_pos (by simp), if_pos ⟨by omega, by simp⟩, hl, e1, if_pos g, if_pos hm, if_pos g, F61_l1.eq_2, if_neg (by rw [w6t (by omega) (by omega)]; simp)]
    rfl
  exact ⟨_, key, U_vset U_zero (show b / 64 < 4 by omega) (or_rng _ _)⟩
end Go.Avl.T7
/- The reader of regular expressions answers at every text. -/
namespace Go.Avl.T7
open Go Go.RowKit Go.Proofs Go.Avl
set_option linter.all false
set_option maxRecDepth 10000

theorem bind_tot {α β : Type} {o : Option α} {f : α → Option β} {Q : β → Prop} (h : ∃ b, o = some b) (k : ∀ b, o = some b → ∃ y, f b = some y ∧ Q y) : ∃ y, o.bind f = some y ∧ Q y := by
  obtain ⟨b, hb⟩ := h
  obtain ⟨y, y1, y2⟩ := k b hb
  exact ⟨y, by rw [hb, Option.bind_some]; exact y1, y2⟩
theorem value_tot (x : Int) : ∃ v, F150 5000 x = some v := by
  unfold F150
  split
  · rw [Option.bind_some]
    split
    · exact ⟨_, rfl⟩
    · split
      · rw [Option.bind_some]; split <;> exact ⟨_, rfl⟩
      · exact ⟨_, rfl⟩
  · rw [Option.bind_some, if_neg (by decide)]
    split
    · rw [Option.bind_some]; split <;> exact ⟨_, rfl⟩
    · exact ⟨_, rfl⟩
def EQ (s : ByteArray) (y : Int × Int × Bool) : Prop := ∃ c n : Nat, y = ((c : Int), (n : Int), y.2.2) ∧ c < 256 ∧ n ≤ s.size ∧ (y.2.2 = true → 1 ≤ n)
theorem EQ.mk {s : ByteArray} {c : Int} {n : Nat} {b : Bool} (h : 0 ≤ c ∧ c ≤ 255) (hn : n ≤ s.size) (hb : b = true → 1 ≤ n) : EQ s (c, (n : Int), b) := by
  obtain ⟨m, rfl⟩ := Int.eq_ofNat_of_zero_le h.1
  exact ⟨m, n, rfl, by omega, hn, hb⟩
theorem w8r (x : Int) : 0 ≤ w8 x ∧ w8 x ≤ 255 := by rw [w8_eq]; omega
theorem eread_tot (s : ByteArray) : ∃ y, F148 5000 s = some y ∧ EQ s y := by
  have c1 : ∃ y, F148_c1 5000 = some y ∧ EQ s y := ⟨_, rfl, EQ.mk (n := 0) (by omega) (Nat.zero_le _) (fun h => by cases h)⟩
  unfold F148
  by_cases e : s = ByteArray.mk #[]
  · rw [if_pos e]
    exact ⟨_, rfl, EQ.mk (n := 0) (by omega) (Nat.zero_le _) (fun h => by cases h)⟩
  · rw [if_neg e]
    have hs : 0 < s.size := by
      refine Classical.byContradiction fun q => e ?_
      have h0 : s.size = 0 := by omega
      have h1 : s.data.size = 0 := h0
      cases s with
      | mk d => congr 1; exact Array.eq_empty_of_size_eq_zero h1
    have u0 := byteAt_u8 s 0
    have u1 := byteAt_u8 s 1
    rw [if_pos ⟨by omega, by omega⟩]
    by_cases b : byteAt s 0 ≠ 92
    · rw [if_pos b, if_pos ⟨by omega, by omega⟩]
      exact ⟨_, rfl, EQ.mk (n := 1) u0 (by omega) (fun _ => Nat.le_refl _)⟩
    · rw [if_neg b]
      by_cases c : (s.size : Int) < 2
      · rw [if_pos c]
        exact ⟨_, rfl, EQ.mk (n := 0) (by omega) (Nat.zero_le _) (fun h => by cases h)⟩
      · rw [if_neg c, if_pos ⟨by omega, by omega⟩]
        split
        · exact ⟨_, rfl, EQ.mk (n := 2) (by omega) (by omega) (fun _ => by omega)⟩
        · split
          · exact ⟨_, rfl, EQ.mk (n := 2) (by omega) (by omega) (fun _ => by omega)⟩
          · split
            · exact ⟨_, rfl, EQ.mk (n := 2) (by omega) (by omega) (fun _ => by omega)⟩
            · split
              · unfold F148_c2
                obtain ⟨v2, e2⟩ := value_tot (byteAt s 2)
                obtain ⟨v3, e3⟩ := value_tot (byteAt s 3)
                by_cases q : (4 : Int) ≤ (s.size : Int)
                · have g2 : (0 : Int) ≤ 2 ∧ (2 : Int) < (s.size : Int) := ⟨by omega, by omega⟩
                  have g3 : (0 : Int) ≤ 3 ∧ (3 : Int) < (s.size : Int) := ⟨by omega, by omega⟩
                  rw [if_pos q]
                  refine bind_tot ?_ fun b hb => ?_
                  · rw [if_pos g2, e2, Option.bind_some]
                    by_cases v : 0 ≤ v2
                    · rw [if_pos v, if_pos g3, e3, Option.bind_some]; exact ⟨_, rfl⟩
                    · rw [if_neg v]; exact ⟨_, rfl⟩
                  · cases b with
                    | true =>
                      rw [if_pos rfl, if_pos g2, e2, Option.bind_some, if_pos g3, e3, Option.bind_some]
                      exact ⟨_, rfl, EQ.mk (n := 4) (w8r _) (by omega) (fun _ => by omega)⟩
                    | false => exact c1
                · rw [if_neg q, Option.bind_some, if_neg (by decide)]; exact c1
              · split
                · exact c1
                · unfold F148_c0
                  refine bind_tot (by repeat' (first | exact ⟨_, rfl⟩ | split)) fun b hb => ?_
                  cases b with
                  | true => exact ⟨_, rfl, EQ.mk (n := 0) (by omega) (Nat.zero_le _) (fun h => by cases h)⟩
                  | false => exact ⟨_, rfl, EQ.mk (n := 2) u1 (by omega) (fun _ => by omega)⟩
/-! The reader's steps. -/
theorem eat_tot (s : ByteArray) {a : Nat} (ha : a ≤ s.size) (hz : s.size ≤ 1000000) (dp c : Int) : ∃ y, F116 5000 (S140.mk s (a : Int) dp) c = some y ∧ ((y = (true, S140.mk s ((a + 1 : Nat) : Int) dp) ∧ a < s.size) ∨ y = (false, S140.mk s (a : Int) dp)) := by
  unfold F116
  refine bind_tot ?_ fun b hb => ?_
  · show ∃ b, (if (a : Int) < (s.size : Int) then if 0 ≤ (a : Int) ∧ (a : Int) < (s.size : Int) then some (decide (byteAt s (a : Int) = c)) else none else some false) = some b
    by_cases q : (a : Int) < (s.size : Int)
    · rw [if_pos q, if_pos ⟨by omega, q⟩]; exact ⟨_, rfl⟩
    · rw [if_neg q]; exact ⟨_, rfl⟩
  · cases b with
    | true =>
      have hb : (if (a : Int) < (s.size : Int) then if 0 ≤ (a : Int) ∧ (a : Int) < (s.size : Int) then some (decide (byteAt s (a : Int) = c)) else none else some false) = some true := hb
      by_cases q : (a : Int) < (s.size : Int)
      · refine ⟨_, rfl, .inl ⟨?_, by omega⟩⟩
        show (true, S140.mk s (w64 ((a : Int) + 1)) dp) = _
        rw [w6t (by omega) (by omega)]; rfl
      · rw [if_neg q] at hb; cases hb
    | false => exact ⟨_, rfl, .inr rfl⟩
theorem end_l (s : ByteArray) {a : Nat} (ha : a < s.size) (dp : Int) (t : ByteArray) (ht : t.size ≤ 1000) : ∀ (m i fuel : Nat), i + m = t.size → m < fuel → ∃ b, F133_l1 5000 (S140.mk s (a : Int) dp) t fuel (i : Int) = some b
  | 0, i, fu + 1, hi, _ => ⟨false, by rw [F133_l1.eq_2, if_neg (by omega)]; rfl⟩
  | m + 1, i, fu + 1, hi, hf => by
    obtain ⟨b, hb⟩ := end_l s ha dp t ht m (i + 1) fu (by omega) (by omega)
    rw [F133_l1.eq_2, if_pos (by omega)]
    show ∃ b, (if 0 ≤ (a : Int) ∧ (a : Int) < (s.size : Int) then _ else none) = some b
    rw [if_pos ⟨by omega, by omega⟩, if_pos ⟨by omega, by omega⟩, w6t (by omega) (by omega)]
    split
    · exact ⟨_, rfl⟩
    · exact ⟨b, by exact_mod_cast hb⟩
theorem end_tot (s : ByteArray) (a : Nat) (dp : Int) (t : ByteArray) (ht : t.size ≤ 1000) : ∃ b, F133 5000 (S140.mk s (a : Int) dp) t = some b ∧ (b = false → a < s.size) := by
  unfold F133
  by_cases q : (s.size : Int) ≤ (a : Int)
  · exact ⟨true, if_pos q, fun h => by cases h⟩
  · obtain ⟨b, hb⟩ := end_l s (show a < s.size by omega) dp t ht t.size 0 5000 (by omega) (by omega)
    exact ⟨b, (if_neg q).trans hb, fun _ => by omega⟩
theorem byte_tot (s : ByteArray) {a : Nat} (ha : a ≤ s.size) (hz : s.size ≤ 1000000) (dp : Int) : ∃ (c : Nat) (ok : Bool) (a' : Nat), F144 5000 (S140.mk s (a : Int) dp) = some ((c : Int), ok, S140.mk s (a' : Int) dp) ∧ c < 256 ∧ a ≤ a' ∧ a' ≤ s.size ∧ (ok = true → a < a') := by
  obtain ⟨y, y1, c, n, y2, y3, y4, y5⟩ := eread_tot (s.extract a s.size)
  have hx : (s.extract a s.size).size = s.size - a := by simp
  rw [hx] at y4
  refine ⟨c, y.2.2, a + n, ?_, y3, by omega, by omega, fun h => by have := y5 h; omega⟩
  unfold F144
  show (if 0 ≤ (a : Int) ∧ (a : Int) ≤ (s.size : Int) ∧ (s.size : Int) ≤ (s.size : Int) then (F148 5000 (s.extract (a : Int).toNat (s.size : Int).toNat)).bind _ else none) = _
  rw [if_pos ⟨by omega, by omega, Int.le_refl _⟩, Int.toNat_natCast, Int.toNat_natCast, y1, Option.bind_some, y2]
  show some ((c : Int), y.2.2, S140.mk s (w64 ((a : Int) + (n : Int))) dp) = _
  rw [w6t (by omega) (by omega)]; rfl
/-! Joins. -/
theorem takes_eq (x : Int) : F118 5000 x = some (if x = 0 ∨ x = 1 then 0 else if x = 4 ∨ x = 5 ∨ x = 6 then 1 else if x = 2 ∨ x = 3 then 2 else -1) := by
  unfold F118 F118_c2 F118_c1 F118_c0
  by_cases h0 : x = 0
  · subst h0; rfl
  by_cases h1 : x = 1
  · subst h1; rfl
  by_cases h2 : x = 2
  · subst h2; rfl
  by_cases h3 : x = 3
  · subst h3; rfl
  by_cases h4 : x = 4
  · subst h4; rfl
  by_cases h5 : x = 5
  · subst h5; rfl
  by_cases h6 : x = 6
  · subst h6; rfl
  simp [h0, h1, h2, h3, h4, h5, h6]
def pcs (k : Int) : S131 := S131.mk k (Vector.replicate 4 0)
theorem join2 {k : Int} (hk : k = 2 ∨ k = 3) {a b : List S131} (ha : a.length ≤ 100000) (hb : b.length ≤ 100000) : F117 5000 k [a, b] = some (a ++ b ++ [pcs k]) := by
  have hl : ([a, b] : List (List S131)).length = 2 := rfl
  have g0 : lget [a, b] (0 : Int) = a := rfl
  have g1 : lget [a, b] (1 : Int) = b := rfl
  have w1 : w64 ((0 : Int) + 1) = 1 := w6t (by omega) (by omega)
  have w2 : w64 ((1 : Int) + 1) = 2 := w6t (by omega) (by omega)
  have ht : F118 5000 k = some 2 := by rcases hk with rfl | rfl <;> rfl
  unfold F117
  rw [ht, Option.bind_some, hl, if_neg (by decide), Option.bind_some, decide_eq_false (by decide), if_neg (by decide), show (5000 : Nat) = 4997 + 1 + 1 + 1 from rfl, F117_l1.eq_2, hl, if_pos (by decide), if_pos (by decide), g0, if_pos (by simp; omega), w1, F117_l1.eq_2, hl, if_pos (by decide), if_pos (by decide), g1, if_pos (by simp; omega), w2, F117_l1.eq_2, hl, if_neg (by decide)]
  unfold F117_c0
  rw [if_pos (by simp; omega), List.nil_append]; rfl
theorem join1 {k : Int} (hk : k = 4 ∨ k = 5 ∨ k = 6) {a : List S131} (ha : a.length ≤ 100000) : F117 5000 k [a] = some (a ++ [pcs k]) := by
  have hl : ([a] : List (List S131)).length = 1 := rfl
  have g0 : lget [a] (0 : Int) = a := rfl
  have w1 : w64 ((0 : Int) + 1) = 1 := w6t (by omega) (by omega)
  have ht : F118 5000 k = some 1 := by rcases hk with rfl | rfl | rfl <;> rfl
  unfold F117
  rw [ht, Option.bind_some, hl, if_neg (by decide), Option.bind_some, decide_eq_false (by decide), if_neg (by decide), show (5000 : Nat) = 4998 + 1 + 1 from rfl, F117_l1.eq_2, hl, if_pos (by decide), if_pos (by decide), g0, if_pos (by simp; omega), w1, F117_l1.eq_2, hl, if_neg (by decide)]
  unfold F117_c0
  rw [if_pos (by simp; omega), List.nil_append]; rfl
theorem U_pcs (k : Int) : U (pcs k).f1 := U_zero
end Go.Avl.T7
/- The reader of regular expressions, whole. -/
namespace Go.Avl.T7
open Go Go.RowKit Go.Proofs Go.Avl
set_option linter.all false
set_option maxRecDepth 10000

/-- What a step of the reader answers: pieces, not too many, at a place further on. -/
def PR (s : ByteArray) (a : Nat) (o : Option (List S131 × Bool × S140)) : Prop :=
  ∃ (l : List S131) (ok : Bool) (a' : Nat) (dp : Int), o = some (l, ok, S140.mk s (a' : Int) dp) ∧ a ≤ a' ∧ a' ≤ s.size ∧ (∀ p ∈ l, U p.f1) ∧ l.length ≤ 2 * (a' - a) + 1 ∧ (ok = true → l.length + 1 ≤ 2 * (a' - a))
theorem PR.none {s : ByteArray} {a a' : Nat} (h : a ≤ a') (h2 : a' ≤ s.size) (dp : Int) : PR s a (some ([], false, S140.mk s (a' : Int) dp)) :=
  ⟨[], false, a', dp, rfl, h, h2, (fun p hp => by cases hp), Nat.zero_le _, fun q => by cases q⟩
theorem PR.one {s : ByteArray} {a a' : Nat} (h : a ≤ a') (h2 : a' ≤ s.size) {v : Vector Int 4} (hv : U v) (k dp : Int) (b : Bool) (hb : b = true → a < a') : PR s a (some ([S131.mk k v], b, S140.mk s (a' : Int) dp)) :=
  ⟨_, b, a', dp, rfl, h, h2, (fun p hp => by rw [List.mem_singleton.1 hp]; exact hv), by simp, fun q => by have := hb q; simp; omega⟩
theorem br_c0 {s : ByteArray} (hz : s.size ≤ 1000000) {a0 a : Nat} (h0 : a0 < a) (ha : a ≤ s.size) (dp : Int) {v : Vector Int 4} (hv : U v) : PR s a0 (F143_c0 5000 s (a : Int) dp v) := by
  obtain ⟨y, y1, y2⟩ := eat_tot s ha hz dp 93
  unfold F143_c0
  rw [y1, Option.bind_some]
  rcases y2 with ⟨rfl, y3⟩ | rfl
  · have e : F119 5000 v = some (decide (v = Vector.replicate 4 (0 : Int))) := rfl
    rw [if_pos rfl, e, Option.bind_some]
    exact PR.one (by omega) (by omega) hv 1 dp _ (fun _ => by omega)
  · rw [if_neg (by simp)]
    exact PR.one (by omega) ha hv 1 dp _ (fun q => by cases q)
theorem br_l3 {s : ByteArray} (hz : s.size ≤ 1000000) (t2 : Bool × S140) (dp : Int) {a0 : Nat} : ∀ (m a fuel : Nat) (v : Vector Int 4), s.size - a < m → m ≤ fuel → a0 < a → a ≤ s.size → U v → PR s a0 (F143_l3 5000 t2 fuel s (a : Int) dp v)
  | 0, a, fuel, v, hm, _, _, _, _ => by omega
  | m + 1, a, fuel, v, hm, hf, h0, ha, hv => by
    obtain ⟨fu, rfl⟩ : ∃ fu, fuel = fu + 1 := ⟨fuel - 1, by omega⟩
    obtain ⟨b, b1, b2⟩ := end_tot s a dp (ByteArray.mk #[93]) (by decide)
    rw [F143_l3.eq_2, b1, Option.bind_some]
    cases b with
    | true =>
      rw [if_neg (by simp)]
      unfold F143_c1
      split
      · obtain ⟨w, w1, w2⟩ := not_tot v
        rw [w1, Option.bind_some]
        exact br_c0 hz h0 ha dp w2
      · exact br_c0 hz h0 ha dp hv
    | false =>
      have hlt := b2 rfl
      obtain ⟨e, e1, e2⟩ := end_tot s a dp (ByteArray.mk #[94, 45, 47, 34]) (by decide)
      rw [if_pos (by simp), e1, Option.bind_some]
      cases e with
      | true => rw [if_pos rfl]; exact PR.none (by omega) ha dp
      | false =>
        obtain ⟨c, ok, a1, c1, c2, c3, c4, c5⟩ := byte_tot s ha hz dp
        rw [if_neg (by simp), c1, Option.bind_some]
        cases ok with
        | false => rw [if_pos (by simp)]; exact PR.none (by omega) c4 dp
        | true =>
          have hlt1 := c5 rfl
          rw [if_neg (by simp)]
          obtain ⟨y, y1, y2⟩ := eat_tot s c4 hz dp 45
          rw [y1, Option.bind_some]
          rcases y2 with ⟨rfl, y3⟩ | rfl
          · rw [if_pos rfl]
            obtain ⟨f, f1, f2⟩ := end_tot s (a1 + 1) dp (ByteArray.mk #[93, 94, 45, 47, 34]) (by decide)
            rw [f1, Option.bind_some]
            cases f with
            | true => rw [if_pos rfl]; exact PR.none (by omega) (by omega) dp
            | false =>
              obtain ⟨g, ok2, a2, g1, g2, g3, g4, g5⟩ := byte_tot s (a := a1 + 1) (by omega) hz dp
              rw [if_neg (by simp), g1, Option.bind_some]
              have fin : ∀ b : Bool, PR s a0 (if b = true then some ([], false, S140.mk s (a2 : Int) dp) else F143_c2 5000 (F143_l3 5000 t2 fu) v ((c : Int), true, S140.mk s (a1 : Int) dp) s (a2 : Int) dp (g : Int)) := by
                intro b
                cases b with
                | true => rw [if_pos rfl]; exact PR.none (by omega) g4 dp
                | false =>
                  rw [if_neg (by simp)]
                  unfold F143_c2
                  obtain ⟨r, r1, r2⟩ := ranges_tot c2 g2
                  obtain ⟨o, o1, o2⟩ := ors_tot hv r
                  show PR s a0 ((F146 5000 (c : Int) (g : Int)).bind _)
                  rw [r1, Option.bind_some, o1, Option.bind_some]
                  exact br_l3 hz t2 dp m a2 fu o (by omega) (by omega) (by omega) g4 o2
              cases ok2 with
              | false => rw [if_pos (by simp), Option.bind_some]; exact fin true
              | true => rw [if_neg (by simp), Option.bind_some]; exact fin _
          · rw [if_neg (by simp)]
            unfold F143_c2
            obtain ⟨r, r1, r2⟩ := ranges_tot c2 c2
            obtain ⟨o, o1, o2⟩ := ors_tot hv r
            show PR s a0 ((F146 5000 (c : Int) (c : Int)).bind _)
            rw [r1, Option.bind_some, o1, Option.bind_some]
            exact br_l3 hz t2 dp m a1 fu o (by omega) (by omega) (by omega) c4 o2
theorem br_tot {s : ByteArray} (hz : s.size ≤ 4000) {a0 a : Nat} (h0 : a0 < a) (ha : a ≤ s.size) (dp : Int) : PR s a0 (F143 5000 (S140.mk s (a : Int) dp)) := by
  obtain ⟨y, y1, y2⟩ := eat_tot s ha (by omega) dp 94
  unfold F143
  rw [y1, Option.bind_some]
  rcases y2 with ⟨rfl, y3⟩ | rfl
  · exact br_l3 (by omega) _ dp (s.size - (a + 1) + 1) (a + 1) 5000 _ (by omega) (by omega) (by omega) (by omega) U_zero
  · exact br_l3 (by omega) _ dp (s.size - a + 1) a 5000 _ (by omega) (by omega) h0 ha U_zero
/-! Loops. -/
theorem U_app {l m : List S131} (h : ∀ p ∈ l, U p.f1) (k : ∀ p ∈ m, U p.f1) (q : Int) : ∀ p ∈ l ++ m ++ [pcs q], U p.f1 := by
  intro p hp
  rcases List.mem_append.1 hp with hp | hp
  · rcases List.mem_append.1 hp with hp | hp
    · exact h p hp
    · exact k p hp
  · rw [List.mem_singleton.1 hp]; exact U_pcs q
theorem cat_l {s : ByteArray} (hz : s.size ≤ 4000) {self : S140 → Option (List S131 × Bool × S140)} {a0 : Nat} (hs : ∀ a dp, a0 ≤ a → a ≤ s.size → PR s a (self (S140.mk s (a : Int) dp))) : ∀ (m a fuel : Nat) (dp : Int) (l : List S131) (ok : Bool), s.size - a + 1 < m + (if ok then 0 else s.size - a + 1) → m ≤ fuel → 0 < m → a0 ≤ a → a ≤ s.size → (∀ p ∈ l, U p.f1) → l.length ≤ 2 * (a - a0) + 1 → (ok = true → l.length + 1 ≤ 2 * (a - a0)) →
    PR s a0 (F92b_l1 5000 self fuel s (a : Int) dp l ok)
  | 0, _, _, _, _, _, _, _, h0, _, _, _, _, _ => by omega
  | m + 1, a, fuel, dp, l, ok, hm, hf, _, h0, ha, hu, hl, hok => by
    obtain ⟨fu, rfl⟩ : ∃ fu, fuel = fu + 1 := ⟨fuel - 1, by omega⟩
    have fin : PR s a0 (F92b_c0 5000 l ok s (a : Int) dp) := ⟨l, ok, a, dp, rfl, h0, ha, hu, hl, hok⟩
    rw [F92b_l1.eq_2]
    cases ok with
    | false => rw [if_neg (by simp), Option.bind_some, if_neg (by simp)]; exact fin
    | true =>
      obtain ⟨b, b1, b2⟩ := end_tot s a dp (ByteArray.mk #[124, 41]) (by decide)
      rw [if_pos rfl, b1, Option.bind_some, Option.bind_some]
      cases b with
      | true => rw [if_neg (by simp)]; exact fin
      | false =>
        have hlt := b2 rfl
        obtain ⟨l2, ok2, a2, dp2, e, c1, c2, c3, c4, c5⟩ := hs a dp h0 ha
        have hk := hok rfl
        rw [if_pos (by simp), e, Option.bind_some, join2 (.inl rfl) (by omega) (show l2.length ≤ 100000 by omega), Option.bind_some]
        simp only [if_true] at hm
        refine cat_l hz hs m a2 fu dp2 _ ok2 ?_ (by omega) (by omega) (by omega) c2 (U_app hu c3 2) (by simp; omega) (fun q => by have := c5 q; simp; omega)
        cases ok2 with
        | true => have := c5 rfl; simp; omega
        | false => simp; omega
theorem alt_l {s : ByteArray} (hz : s.size ≤ 4000) {self : S140 → Option (List S131 × Bool × S140)} {a0 : Nat} (hs : ∀ a dp, a0 ≤ a → a ≤ s.size → PR s a (self (S140.mk s (a : Int) dp))) : ∀ (m a fuel : Nat) (dp : Int) (l : List S131) (ok : Bool), s.size - a + 1 < m + (if ok then 0 else s.size - a + 1) → m ≤ fuel → 0 < m → a0 ≤ a → a ≤ s.size → (∀ p ∈ l, U p.f1) → l.length ≤ 2 * (a - a0) + 1 → (ok = true → l.length + 1 ≤ 2 * (a - a0)) →
    PR s a0 (F92a_l1 5000 self fuel s (a : Int) dp l ok)
  | 0, _, _, _, _, _, _, _, h0, _, _, _, _, _ => by omega
  | m + 1, a, fuel, dp, l, ok, hm, hf, _, h0, ha, hu, hl, hok => by
    obtain ⟨fu, rfl⟩ : ∃ fu, fuel = fu + 1 := ⟨fuel - 1, by omega⟩
    have fin : PR s a0 (F92a_c0 5000 l ok s (a : Int) dp) := ⟨l, ok, a, dp, rfl, h0, ha, hu, hl, hok⟩
    rw [F92a_l1.eq_2]
    cases ok with
    | false => rw [if_neg (by simp), Option.bind_some]; exact fin
    | true =>
      obtain ⟨y, y1, y2⟩ := eat_tot s ha (by omega) dp 124
      rw [if_pos rfl, y1, Option.bind_some, Option.bind_some]
      rcases y2 with ⟨rfl, y3⟩ | rfl
      · obtain ⟨l2, ok2, a2, dp2, e, c1, c2, c3, c4, c5⟩ := hs (a + 1) dp (by omega) (by omega)
        have hk := hok rfl
        show PR s a0 (if true = true then (self (S140.mk s ((a + 1 : Nat) : Int) dp)).bind _ else _)
        rw [if_pos rfl, e, Option.bind_some, join2 (.inr rfl) (by omega) (show l2.length ≤ 100000 by omega), Option.bind_some]
        simp only [if_true] at hm
        refine alt_l hz hs m a2 fu dp2 _ ok2 ?_ (by omega) (by omega) (by omega) c2 (U_app hu c3 3) (by simp; omega) (fun q => by have := c5 q; simp; omega)
        cases ok2 with
        | true => have := c5 rfl; simp; omega
        | false => simp; omega
      · exact fin
theorem rep_l {s : ByteArray} (hz : s.size ≤ 4000) (t2 : List S131 × Bool × S140) (ht : t2.2.1 = true) {a0 : Nat} : ∀ (m a fuel : Nat) (dp : Int) (l : List S131), s.size - a < m → m ≤ fuel → a0 ≤ a → a ≤ s.size → (∀ p ∈ l, U p.f1) → l.length + 1 ≤ 2 * (a - a0) →
    PR s a0 (F92c_l1 5000 t2 fuel s (a : Int) dp l)
  | 0, _, _, _, _, _, _, _, _, _, _ => by omega
  | m + 1, a, fuel, dp, l, hm, hf, h0, ha, hu, hl => by
    obtain ⟨fu, rfl⟩ : ∃ fu, fuel = fu + 1 := ⟨fuel - 1, by omega⟩
    have go : ∀ k : Int, k = 4 ∨ k = 5 ∨ k = 6 → a < s.size → PR s a0 ((F117 5000 k [l]).bind fun t18 => F92c_l1 5000 t2 fu s ((a + 1 : Nat) : Int) dp t18) := by
      intro k hk hlt
      rw [join1 hk (by omega), Option.bind_some]
      exact rep_l hz t2 ht m (a + 1) fu dp _ (by omega) (by omega) (by omega) (by omega) (fun p hp => by
        rcases List.mem_append.1 hp with hp | hp
        · exact hu p hp
        · rw [List.mem_singleton.1 hp]; exact U_pcs k) (by simp; omega)
    obtain ⟨y, y1, y2⟩ := eat_tot s ha (by omega) dp 42
    obtain ⟨z, z1, z2⟩ := eat_tot s ha (by omega) dp 43
    obtain ⟨x, x1, x2⟩ := eat_tot s ha (by omega) dp 63
    rw [F92c_l1.eq_2, if_pos ht, y1, Option.bind_some]
    rcases y2 with ⟨rfl, y3⟩ | rfl
    · rw [if_pos rfl]; exact go 4 (.inl rfl) y3
    · rw [if_neg (by simp), z1, Option.bind_some]
      rcases z2 with ⟨rfl, z3⟩ | rfl
      · rw [if_pos rfl]; exact go 5 (.inr (.inl rfl)) z3
      · rw [if_neg (by simp), x1, Option.bind_some]
        rcases x2 with ⟨rfl, x3⟩ | rfl
        · rw [if_pos rfl]; exact go 6 (.inr (.inr rfl)) x3
        · rw [if_neg (by simp)]
          exact ⟨l, true, a, dp, rfl, h0, ha, hu, by omega, fun _ => hl⟩
theorem reader_tot {s : ByteArray} (hz : s.size ≤ 4000) : ∀ j : Nat,
    (∀ a dp, a ≤ s.size → 4 * (s.size - a) + 1 ≤ j → PR s a (F92d_r 5000 j (S140.mk s (a : Int) dp))) ∧
    (∀ a dp, a ≤ s.size → 4 * (s.size - a) + 2 ≤ j → PR s a (F92c_r 5000 j (S140.mk s (a : Int) dp))) ∧
    (∀ a dp, a ≤ s.size → 4 * (s.size - a) + 3 ≤ j → PR s a (F92b_r 5000 j (S140.mk s (a : Int) dp))) ∧
    (∀ a dp, a ≤ s.size → 4 * (s.size - a) + 4 ≤ j → PR s a (F92a_r 5000 j (S140.mk s (a : Int) dp)))
  | 0 => ⟨fun a dp _ h => by omega, fun a dp _ h => by omega, fun a dp _ h => by omega, fun a dp _ h => by omega⟩
  | j + 1 => by
    obtain ⟨i1, i2, i3, i4⟩ := reader_tot hz j
    refine ⟨fun a dp ha hj => ?_, fun a dp ha hj => ?_, fun a dp ha hj => ?_, fun a dp ha hj => ?_⟩
    · rw [F92d_r.eq_2]
      obtain ⟨b, b1, b2⟩ := end_tot s a dp (ByteArray.mk #[124, 41, 42, 43, 63, 93, 47, 34]) (by decide)
      rw [b1, Option.bind_some]
      cases b with
      | true => rw [if_pos rfl]; exact PR.none (Nat.le_refl _) ha dp
      | false =>
        have hlt := b2 rfl
        rw [if_neg (by simp)]
        obtain ⟨y, y1, y2⟩ := eat_tot s ha (by omega) dp 46
        rw [y1, Option.bind_some]
        rcases y2 with ⟨rfl, y3⟩ | rfl
        · obtain ⟨c, c1, c2⟩ := full_tot
          rw [if_pos rfl, c1, Option.bind_some]
          exact PR.one (by omega) (by omega) c2 1 dp true (fun _ => by omega)
        · rw [if_neg (by simp)]
          obtain ⟨y, y1, y2⟩ := eat_tot s ha (by omega) dp 126
          rw [y1, Option.bind_some]
          rcases y2 with ⟨rfl, y3⟩ | rfl
          · rw [if_pos rfl]
            exact PR.one (by omega) (by omega) U_zero 0 dp true (fun _ => by omega)
          · rw [if_neg (by simp)]
            obtain ⟨y, y1, y2⟩ := eat_tot s ha (by omega) dp 40
            rw [y1, Option.bind_some]
            rcases y2 with ⟨rfl, y3⟩ | rfl
            · rw [if_pos rfl]
              obtain ⟨l, ok, a', dp', e, c1, c2, c3, c4, c5⟩ := i4 (a + 1) (w64 (dp + 1)) (by omega) (by omega)
              show PR s a ((F92a_r 5000 j (S140.mk s ((a + 1 : Nat) : Int) (w64 (dp + 1)))).bind _)
              rw [e, Option.bind_some]
              have bad : PR s a (some (l, false, S140.mk s (a' : Int) (w64 (dp' - 1)))) := ⟨l, false, a', _, rfl, by omega, c2, c3, by omega, fun q => by cases q⟩
              cases ok with
              | false => rw [if_neg (by simp), Option.bind_some]; exact bad
              | true =>
                have hk := c5 rfl
                rw [if_pos rfl]
                by_cases q : w64 (dp' - 1) < 99
                · obtain ⟨y, z1, z2⟩ := eat_tot s c2 (by omega) (w64 (dp' - 1)) 41
                  rw [if_pos q, z1, Option.bind_some, Option.bind_some]
                  rcases z2 with ⟨rfl, z3⟩ | rfl
                  · exact ⟨l, true, a' + 1, _, rfl, by omega, by omega, c3, by omega, fun _ => by omega⟩
                  · exact bad
                · rw [if_neg q, Option.bind_some]; exact bad
            · rw [if_neg (by simp)]
              obtain ⟨y, y1, y2⟩ := eat_tot s ha (by omega) dp 91
              rw [y1, Option.bind_some]
              rcases y2 with ⟨rfl, y3⟩ | rfl
              · rw [if_pos rfl]
                obtain ⟨l, ok, a', dp', e, c1, c2, c3, c4, c5⟩ := br_tot hz (a0 := a) (a := a + 1) (by omega) (by omega) dp
                rw [e, Option.bind_some]
                exact ⟨l, ok, a', dp', rfl, c1, c2, c3, c4, c5⟩
              · rw [if_neg (by simp)]
                obtain ⟨c, ok, a1, c1, c2, c3, c4, c5⟩ := byte_tot s ha (by omega) dp
                obtain ⟨v, v1, v2⟩ := of1_tot c2
                rw [c1, Option.bind_some, v1, Option.bind_some]
                exact PR.one c3 c4 v2 1 dp ok c5
    · rw [F92c_r.eq_2]
      obtain ⟨l, ok, a', dp', e, c1, c2, c3, c4, c5⟩ := i1 a dp ha (by omega)
      rw [e, Option.bind_some]
      cases ok with
      | false =>
        show PR s a (F92c_l1 5000 (l, false, S140.mk s (a' : Int) dp') (4999 + 1) s (a' : Int) dp' l)
        rw [F92c_l1.eq_2, if_neg (by simp)]
        exact PR.none c1 c2 dp'
      | true => exact rep_l hz (l, true, S140.mk s (a' : Int) dp') rfl (s.size - a' + 1) a' 5000 dp' l (by omega) (by omega) c1 c2 c3 (c5 rfl)
    · rw [F92b_r.eq_2]
      obtain ⟨l, ok, a', dp', e, c1, c2, c3, c4, c5⟩ := i2 a dp ha (by omega)
      rw [e, Option.bind_some]
      exact cat_l hz (fun a2 dp2 h1 h2 => i2 a2 dp2 h2 (by omega)) (s.size - a' + 2) a' 5000 dp' l ok (by omega) (by omega) (by omega) c1 c2 c3 c4 c5
    · rw [F92a_r.eq_2]
      obtain ⟨l, ok, a', dp', e, c1, c2, c3, c4, c5⟩ := i3 a dp ha (by omega)
      rw [e, Option.bind_some]
      exact alt_l hz (fun a2 dp2 h1 h2 => i3 a2 dp2 h2 (by omega)) (s.size - a' + 2) a' 5000 dp' l ok (by omega) (by omega) (by omega) c1 c2 c3 c4 c5
theorem parse_tot {s : ByteArray} (hz : s.size ≤ 1000) : ∃ (l : List S131) (e : Int), F73 5000 s = some (l, e) ∧ l.length ≤ 2 * s.size + 1 ∧ ∀ p ∈ l, U p.f1 := by
  obtain ⟨l, ok, a', dp', e, c1, c2, c3, c4, c5⟩ := (reader_tot (s := s) (by omega) 5000).2.2.2 0 0 (by omega) (by omega)
  have e : F92a 5000 (S140.mk s (0 : Int) 0) = some (l, ok, S140.mk s (a' : Int) dp') := e
  unfold F73
  rw [if_neg (by omega), e, Option.bind_some]
  have nn : ∃ (l : List S131) (e : Int), (some (([] : List S131), (5 : Int)) : Option (List S131 × Int)) = some (l, e) ∧ l.length ≤ 2 * s.size + 1 ∧ ∀ p ∈ l, U p.f1 := ⟨[], 5, rfl, by simp, fun p hp => by cases hp⟩
  have fin : ∀ b : Bool, ∃ (l' : List S131) (e : Int), (if b = true then some ([], (5 : Int)) else if (400 : Int) < (l.length : Int) then some ([], (6 : Int)) else some (l, (0 : Int))) = some (l', e) ∧ l'.length ≤ 2 * s.size + 1 ∧ ∀ p ∈ l', U p.f1 := by
    intro b
    cases b with
    | true => exact nn
    | false =>
      rw [if_neg (by simp)]
      by_cases q : (400 : Int) < (l.length : Int)
      · rw [if_pos q]; exact ⟨[], 6, rfl, by simp, fun p hp => by cases hp⟩
      · rw [if_neg q]; exact ⟨l, 0, rfl, by omega, c3⟩
  cases ok with
  | false => rw [if_pos (by simp), Option.bind_some]; exact fin true
  | true => rw [if_neg (by simp), Option.bind_some]; exact fin _
end Go.Avl.T7
/- Classes of bytes: a byte's key tells which sets have it. -/
namespace Go.Avl.T7
open Go Go.RowKit Go.Proofs Go.Avl
set_option linter.all false
set_option maxRecDepth 10000

theorem bits_or_u8_nat (a b : Nat) (ha : a < 256) (hb : b < 256) : bits .or .u8 (a : Int) (b : Int) = ((a ||| b : Nat) : Int) ∧ a ||| b < 256 := by
  have hx : a ||| b < 2 ^ 8 := Nat.or_lt_two_pow (by omega) (by omega)
  have h1 : (BitVec.ofInt 8 (a : Int)).toNat = a := by
    rw [BitVec.ofInt_natCast, BitVec.toNat_ofNat]; exact Nat.mod_eq_of_lt (by omega)
  have h2 : (BitVec.ofInt 8 (b : Int)).toNat = b := by
    rw [BitVec.ofInt_natCast, BitVec.toNat_ofNat]; exact Nat.mod_eq_of_lt (by omega)
  refine ⟨?_, hx⟩
  show IntKind.u8.wrap ((BitVec.ofInt 8 (a : Int) ||| BitVec.ofInt 8 (b : Int)).toNat : Int) = _
  rw [BitVec.toNat_or, h1, h2]
  exact w8_id (by omega) (by omega)
/-- Which of some sets have a byte. -/
def sg (L : List (Vector Int 4)) (b x : Nat) : Bool := decide (x < L.length) && tb (L.getD x default) b
def bt (row : List Int) (x : Nat) : Bool := (row.getD (x / 8) 0).toNat.testBit (x % 8)
def Row8 (L : List (Vector Int 4)) (b q i : Nat) (row : List Int) : Prop :=
  row.length = q ∧ (∀ x ∈ row, 0 ≤ x ∧ x ≤ 255) ∧ ∀ x, x < 8 * q → bt row x = (decide (x < i) && sg L b x)
theorem row_set {L : List (Vector Int 4)} {b q i : Nat} {row : List Int} (h : Row8 L b q i row) (hi : i < 8 * q) (hs : sg L b i = true) :
    Row8 L b q (i + 1) (lset row ((i / 8 : Nat) : Int) (bits .or .u8 (lget row ((i / 8 : Nat) : Int)) (IntKind.u8.wrap ((1 : Int) * 2 ^ (min (i % 8) IntKind.u8.bits))))) := by
  obtain ⟨h1, h2, h3⟩ := h
  have hj : i / 8 < row.length := by omega
  have el : lget row ((i / 8 : Nat) : Int) = row[i / 8] := by
    unfold lget; rw [Int.toNat_natCast, List.getD, List.getElem?_eq_getElem hj]; rfl
  have hb := h2 row[i / 8] (List.getElem_mem hj)
  obtain ⟨w, hw⟩ : ∃ w : Nat, row[i / 8] = w := ⟨row[i / 8].toNat, by omega⟩
  have hp : (2 : Nat) ^ (i % 8) < 256 := Nat.lt_of_lt_of_le (Nat.pow_lt_pow_right (by omega) (by omega : i % 8 < 8)) (by decide : 2 ^ 8 ≤ 256)
  have e5 : IntKind.u8.wrap ((1 : Int) * 2 ^ (min (i % 8) IntKind.u8.bits)) = ((2 ^ (i % 8) : Nat) : Int) := by
    rw [show min (i % 8) IntKind.u8.bits = i % 8 by show min (i % 8) 8 = i % 8; omega]
    have e3 : ((1 : Int) * 2 ^ (i % 8)) = ((2 ^ (i % 8) : Nat) : Int) := by simp
    rw [e3]
    generalize 2 ^ (i % 8) = z at hp ⊢
    exact w8_id (by omega) (by omega)
  obtain ⟨o1, o2⟩ := bits_or_u8_nat w (2 ^ (i % 8)) (by omega) hp
  rw [el, hw, e5, o1]
  refine ⟨by unfold lset; rw [List.length_set]; exact h1, fun x hx => ?_, fun x hx => ?_⟩
  · unfold lset at hx
    rcases List.mem_or_eq_of_mem_set hx with h | h
    · exact h2 x h
    · rw [h]; omega
  · have hb0 := h3 x hx
    unfold bt lset at *
    rw [Int.toNat_natCast]
    by_cases r : x / 8 = i / 8
    · rw [r, List.getD, List.getElem?_set_self hj]
      rw [r, List.getD, List.getElem?_eq_getElem hj, hw] at hb0
      simp only [Option.getD_some, Int.toNat_natCast] at hb0 ⊢
      rw [Nat.testBit_or, hb0, Nat.testBit_two_pow]
      by_cases u : x = i
      · subst u; rw [hs]; simp
      · rw [decide_eq_false (p := i % 8 = x % 8) (by omega), Bool.or_false]
        congr 1
        rw [decide_eq_decide]; omega
    · rw [List.getD, List.getElem?_set_ne (fun h => r h.symm)]
      rw [List.getD] at hb0
      rw [hb0]
      congr 1
      rw [decide_eq_decide]
      have : x ≠ i := fun h => r (by rw [h])
      omega
theorem row_skip {L : List (Vector Int 4)} {b q i : Nat} {row : List Int} (h : Row8 L b q i row) (hs : sg L b i = false) : Row8 L b q (i + 1) row := by
  obtain ⟨h1, h2, h3⟩ := h
  refine ⟨h1, h2, fun x hx => ?_⟩
  rw [h3 x hx]
  by_cases u : x = i
  · subst u; rw [hs]; simp
  · congr 1
    rw [decide_eq_decide]; omega
theorem key_l (L : List (Vector Int 4)) (hL : ∀ a ∈ L, U a) (b : Nat) (hb : b < 256) (q : Nat) (hq : L.length ≤ 8 * q) (hz : q ≤ 1000) : ∀ (m i fuel : Nat) (row : List Int), i + m = L.length → m < fuel → Row8 L b q i row →
    ∃ row', F122_l2 5000 L (b : Int) fuel row i = some (strOfNums row') ∧ Row8 L b q L.length row'
  | 0, i, f + 1, row, h, _, hr => by
    rw [F122_l2.eq_2, if_neg (by omega), F122_c0]
    exact ⟨row, rfl, by rw [show L.length = i by omega]; exact hr⟩
  | m + 1, i, f + 1, row, h, hf, hr => by
    have hi : i < L.length := by omega
    have g : 0 ≤ (i : Int) ∧ (i : Int) < (L.length : Int) := ⟨by omega, by omega⟩
    have eb : lget L (i : Int) = L[i] := by
      unfold lget; rw [show (i : Int).toNat = i by omega, List.getD, List.getElem?_eq_getElem hi]; rfl
    have ed : L.getD i default = L[i] := by rw [List.getD, List.getElem?_eq_getElem hi]; rfl
    have hs : sg L b i = tb L[i] b := by unfold sg; rw [decide_eq_true hi, Bool.true_and, ed]
    have e1 : IntKind.i64.wrap ((i : Int).tdiv 8) = ((i / 8 : Nat) : Int) := by
      have h1 : (i : Int).tdiv 8 = ((i / 8 : Nat) : Int) := by rw [Int.tdiv_eq_ediv_of_nonneg (by omega)]; omega
      rw [h1]; have := w64_id (n := ((i / 8 : Nat) : Int)) (by omega) (by omega); exact this
    have e2 : u64 ((i : Int).tmod 8) = ((i % 8 : Nat) : Int) := by
      have h1 : (i : Int).tmod 8 = ((i % 8 : Nat) : Int) := by rw [Int.tmod_eq_emod_of_nonneg (by omega)]; omega
      rw [h1, u64_eq]; omega
    have hlen := hr.1
    rw [F122_l2.eq_2, if_pos g.2, if_pos g, eb, has_eq (hL _ (List.getElem_mem hi)) hb, Option.bind_some]
    by_cases t : tb L[i] b = true
    · rw [if_pos t, e1, e2, if_pos ⟨by omega, by omega⟩, if_pos (by omega), if_pos ⟨by omega, by omega⟩, Int.toNat_natCast]
      unfold F122_c1
      rw [w64_id (by omega) (by omega)]
      have := key_l L hL b hb q hq hz m (i + 1) f _ (by omega) (by omega) (row_set hr (by omega) (by rw [hs]; exact t))
      exact_mod_cast this
    · rw [if_neg t]
      unfold F122_c1
      rw [w64_id (by omega) (by omega)]
      have := key_l L hL b hb q hq hz m (i + 1) f row (by omega) (by omega) (row_skip hr (by rw [hs]; simpa using t))
      exact_mod_cast this
theorem key_eq (L : List (Vector Int 4)) (hL : ∀ a ∈ L, U a) (hn : L.length ≤ 1000) (b : Nat) (hb : b < 256) : ∃ row, F122 5000 L (b : Int) = some (strOfNums row) ∧ Row8 L b ((L.length + 7) / 8) L.length row := by
  have e : IntKind.i64.wrap ((w64 ((L.length : Int) + 7)).tdiv 8) = (((L.length + 7) / 8 : Nat) : Int) := by
    rw [w64_id (by omega) (by omega)]
    have h1 : ((L.length : Int) + 7).tdiv 8 = (((L.length + 7) / 8 : Nat) : Int) := by rw [Int.tdiv_eq_ediv_of_nonneg (by omega)]; omega
    rw [h1]; have := w64_id (n := (((L.length + 7) / 8 : Nat) : Int)) (by omega) (by omega); exact this
  unfold F122
  rw [e, if_pos ⟨by omega, by omega, by omega⟩, Int.toNat_natCast]
  have := key_l L hL b hb ((L.length + 7) / 8) (by omega) (by omega) L.length 0 5000 (List.replicate ((L.length + 7) / 8) 0) (by omega) (by omega) ⟨by simp, fun x hx => by rw [(List.mem_replicate.1 hx).2]; omega, fun x hx => by
    unfold bt
    rw [List.getD, List.getElem?_replicate, if_pos (by omega)]; simp⟩
  exact this
/-- Two keys are one just if the bytes are told apart by no set. -/
theorem row_iff {L : List (Vector Int 4)} {b c q : Nat} (hq : L.length ≤ 8 * q) {r s : List Int} (hr : Row8 L b q L.length r) (hs : Row8 L c q L.length s) : strOfNums r = strOfNums s ↔ ∀ x, sg L b x = sg L c x := by
  constructor
  · intro h x
    have e := strOf_inj hr.2.1 hs.2.1 h
    by_cases hx : x < L.length
    · have h1 := hr.2.2 x (by omega)
      have h2 := hs.2.2 x (by omega)
      rw [e, h2, decide_eq_true hx, Bool.true_and, Bool.true_and] at h1
      exact h1.symm
    · unfold sg; rw [decide_eq_false hx]; rfl
  · intro h
    congr 1
    apply List.ext_getElem (by rw [hr.1, hs.1])
    intro j h1 h2
    have b1 := hr.2.1 r[j] (List.getElem_mem h1)
    have b2 := hs.2.1 s[j] (List.getElem_mem h2)
    have : r[j].toNat = s[j].toNat := by
      apply Nat.eq_of_testBit_eq
      intro t
      by_cases ht : t < 8
      · have k1 := hr.2.2 (8 * j + t) (by have := hr.1; omega)
        have k2 := hs.2.2 (8 * j + t) (by have := hr.1; omega)
        rw [h] at k1
        rw [← k2] at k1
        unfold bt at k1
        rw [show (8 * j + t) / 8 = j by omega, show (8 * j + t) % 8 = t by omega, List.getD, List.getD, List.getElem?_eq_getElem h1, List.getElem?_eq_getElem h2] at k1
        exact k1
      · have hp : 256 ≤ 2 ^ t := Nat.le_trans (by decide : 256 ≤ 2 ^ 8) (Nat.pow_le_pow_right (by omega) (by omega))
        rw [Nat.testBit_lt_two_pow (by omega), Nat.testBit_lt_two_pow (by omega)]
    omega
end Go.Avl.T7
/- Classes of bytes: numbered by their least bytes. -/
namespace Go.Avl.T7
open Go Go.RowKit Go.Proofs Go.Avl
set_option linter.all false
set_option maxRecDepth 10000

/-! The least of one class. -/
def rcf (e : Nat → Bool) (b : Nat) : Nat → Nat → Nat
  | 0, _ => b
  | f + 1, i => if e i = true then i else rcf e b f (i + 1)
theorem rcf_spec (e : Nat → Bool) (b : Nat) (hb : e b = true) : ∀ (f i : Nat), i + f = b → rcf e b f i ≤ b ∧ i ≤ rcf e b f i ∧ e (rcf e b f i) = true ∧ ∀ c, i ≤ c → c < rcf e b f i → e c = false
  | 0, i, h => by rw [rcf]; exact ⟨by omega, by omega, hb, fun c h1 h2 => by omega⟩
  | f + 1, i, h => by
    rw [rcf]
    by_cases q : e i = true
    · rw [if_pos q]; exact ⟨by omega, by omega, q, fun c h1 h2 => by omega⟩
    · rw [if_neg q]
      obtain ⟨h1, h2, h3, h4⟩ := rcf_spec e b hb f (i + 1) (by omega)
      refine ⟨h1, by omega, h3, fun c k1 k2 => ?_⟩
      by_cases r : c = i
      · subst r; simpa using q
      · exact h4 c (by omega) k2
section
variable (kk : Nat → ByteArray)
def rc (b : Nat) : Nat := rcf (fun c => decide (kk c = kk b)) b b 0
theorem rc_spec (b : Nat) : rc kk b ≤ b ∧ kk (rc kk b) = kk b ∧ ∀ c, c < rc kk b → kk c ≠ kk b := by
  obtain ⟨h1, h2, h3, h4⟩ := rcf_spec (fun c => decide (kk c = kk b)) b (by simp) b 0 (by omega)
  exact ⟨h1, of_decide_eq_true h3, fun c hc => of_decide_eq_false (h4 c (by omega) hc)⟩
theorem rc_uniq {b r : Nat} (h1 : kk r = kk b) (h2 : ∀ c, c < r → kk c ≠ kk b) : rc kk b = r := by
  obtain ⟨k1, k2, k3⟩ := rc_spec kk b
  rcases Nat.lt_trichotomy (rc kk b) r with h | h | h
  · exact absurd k2 (h2 _ h)
  · exact h
  · exact absurd h1 (k3 _ h)
theorem rc_same {b c : Nat} (h : kk c = kk b) : rc kk c = rc kk b := by
  obtain ⟨k1, k2, k3⟩ := rc_spec kk b
  exact rc_uniq kk (by rw [k2, h]) (fun d hd => by rw [h]; exact k3 d hd)
theorem rc_rc (b : Nat) : rc kk (rc kk b) = rc kk b := rc_same kk (rc_spec kk b).2.1
/-- How many classes begin below a byte. -/
def nc : Nat → Nat
  | 0 => 0
  | b + 1 => nc b + if rc kk b = b then 1 else 0
theorem nc_le (b : Nat) : nc kk b ≤ b := by
  induction b with
  | zero => exact Nat.le_refl _
  | succ b ih => rw [nc]; split <;> omega
theorem nc_mono {b c : Nat} (h : b ≤ c) : nc kk b ≤ nc kk c := by
  induction h with
  | refl => exact Nat.le_refl _
  | step _ ih => rw [nc]; omega
def ck (b : Nat) : Nat := nc kk (rc kk b)
theorem ck_same {b c : Nat} (h : kk c = kk b) : ck kk c = ck kk b := by unfold ck; rw [rc_same kk h]
theorem ck_le (b : Nat) : ck kk b ≤ b := Nat.le_trans (nc_le kk _) (rc_spec kk b).1
theorem vget_vset256 (v : Vector Int 256) (i j : Nat) (x : Int) (hi : i < 256) (hj : j < 256) : vget (vset v (i : Int) x) (j : Int) = if j = i then x else vget v (j : Int) := by
  unfold vget vset
  rw [Int.toNat_natCast, Int.toNat_natCast, Vector.toList_setIfInBounds, List.getD, List.getD, List.getElem?_set]
  by_cases e : i = j
  · subst e; rw [if_pos rfl, if_pos rfl, if_pos (by simpa using hi)]; rfl
  · rw [if_neg e, if_neg (fun h => e h.symm)]
/-- What the map holds. -/
def MapOK (b : Nat) (m : List (ByteArray × Int)) : Prop :=
  m.length = nc kk b ∧ (∀ c, c < b → mget m (kk c) = some (ck kk c : Int)) ∧ ∀ s, (∀ c, c < b → kk c ≠ s) → mget m s = none
theorem bclasses_l {L : List (Vector Int 4)} (hk : ∀ b : Nat, b < 256 → F122 5000 L (b : Int) = some (kk b)) : ∀ (m b fuel : Nat) (v : Vector Int 256) (mp : List (ByteArray × Int)), b + m = 256 → m < fuel → MapOK kk b mp → (∀ c, c < b → vget v (c : Int) = (ck kk c : Int)) →
    ∃ v', F96_l2 5000 L fuel v mp b = some v' ∧ ∀ c : Nat, c < 256 → vget v' (c : Int) = (ck kk c : Int)
  | 0, b, f + 1, v, mp, h, _, _, hv => by
    rw [F96_l2.eq_2, if_neg (by omega), F96_c0]
    exact ⟨v, rfl, fun c hc => hv c (by omega)⟩
  | m + 1, b, f + 1, v, mp, h, hf, hm, hv => by
    have hb : b < 256 := by omega
    have hcl := ck_le kk b
    have fin : ∀ mp', MapOK kk (b + 1) mp' → ∃ v', F96_c1 5000 (F96_l2 5000 L f) v (b : Int) mp' (ck kk b : Int) = some v' ∧ ∀ c : Nat, c < 256 → vget v' (c : Int) = (ck kk c : Int) := by
      intro mp' hm'
      unfold F96_c1
      rw [if_pos ⟨by omega, by omega⟩, w8_id (by omega) (by omega), w64_id (by omega) (by omega)]
      have := bclasses_l hk m (b + 1) f (vset v (b : Int) (ck kk b : Int)) mp' (by omega) (by omega) hm' (fun c hc => by
        rw [vget_vset256 _ _ _ _ hb (by omega)]
        by_cases q : c = b
        · subst q; rw [if_pos rfl]
        · rw [if_neg q]; exact hv c (by omega))
      exact_mod_cast this
    rw [F96_l2.eq_2, if_pos (by omega), w8_id (by omega) (by omega), hk b hb, Option.bind_some]
    obtain ⟨r1, r2, r3⟩ := rc_spec kk b
    obtain ⟨m1, m2, m3⟩ := hm
    by_cases q : rc kk b = b
    · have hn : mget mp (kk b) = none := m3 _ (fun c hc => r3 c (by omega))
      have hc : ck kk b = nc kk b := by unfold ck; rw [q]
      rw [hn, if_pos (by rfl), m1, ← hc]
      refine fin _ ⟨?_, fun c hc' => ?_, fun s hs => ?_⟩
      · rw [mput_none hn, List.length_append, m1, nc, if_pos q]; rfl
      · rw [mget_mput]
        by_cases r : c = b
        · subst r; rw [if_pos rfl]
        · rw [if_neg (fun h => r3 c (by omega) h.symm), m2 c (by omega)]
      · rw [mget_mput, if_neg (hs b (by omega)), m3 s (fun c hc => hs c (by omega))]
    · have hg : mget mp (kk b) = some (ck kk b : Int) := by
        rw [← r2, m2 _ (by omega), ck_same kk r2]
      rw [hg, if_neg (by simp)]
      refine fin mp ⟨by rw [m1, nc, if_neg q]; rfl, fun c hc' => ?_, fun s hs => m3 s (fun c hc => hs c (by omega))⟩
      by_cases r : c = b
      · subst r; exact hg
      · exact m2 c (by omega)
end
end Go.Avl.T7
/- The element of a row. -/
namespace Go.Avl.T7
open Go Go.RowKit Go.Proofs Go.Avl
theorem lget_lt {α : Type} [Inhabited α] (l : List α) (i : Nat) (h : i < l.length) : lget l (i : Int) = l[i] := by simp [lget, List.getD, List.getElem?_eq_getElem h]
end Go.Avl.T7
/- Machines that may be in several states: what both answer, as plain lists. -/
namespace Go.Avl.T7
open Go Go.RowKit Go.Proofs Go.Avl
set_option linter.all false
set_option maxRecDepth 10000

theorem lset_len {α : Type} (l : List α) (i : Int) (x : α) : (lset l i x).length = l.length := by simp [lset]
def NN (n : S121) : Nat := n.f0.toNat
/-- May an edge be? -/
def edB (n : S121) (e : S152) : Bool := decide (0 ≤ e.f0 ∧ e.f0 < n.f0 ∧ 0 ≤ e.f1 ∧ e.f1 < n.f0)
def rt0 (n : S121) : Bool := decide (0 ≤ n.f2 ∧ n.f2 < n.f0 ∧ 0 ≤ n.f3 ∧ n.f3 < n.f0)
def rtB (n : S121) : Bool := rt0 n && n.f1.all (edB n)
theorem right_l (n : S121) (hl : n.f1.length ≤ 1000) : ∀ (d i m : Nat), i + d = n.f1.length → d < m → F95_l1 5000 n m (i : Int) = some ((n.f1.drop i).all (edB n))
  | 0, i, m + 1, hi, _ => by
    rw [F95_l1.eq_2, if_neg (by omega), F95_c0, List.drop_of_length_le (by omega)]; simp
  | d + 1, i, m + 1, hi, hm => by
    have hi' : i < n.f1.length := by omega
    have g : 0 ≤ (i : Int) ∧ (i : Int) < (n.f1.length : Int) := ⟨by omega, by omega⟩
    have ih := right_l n hl d (i + 1) m (by omega) (by omega)
    rw [F95_l1.eq_2, if_pos g.2, if_pos g, lget_lt _ i hi', List.drop_eq_getElem_cons hi', w64_id (by omega) (by omega), show (i : Int) + 1 = ((i + 1 : Nat) : Int) by omega, ih]
    have key : (if n.f1[i].f0 < (0 : Int) then some true else if n.f0 ≤ n.f1[i].f0 then some true else if n.f1[i].f1 < (0 : Int) then some true else some (decide (n.f0 ≤ n.f1[i].f1))) = some (!edB n n.f1[i]) := by
      unfold edB
      by_cases a1 : n.f1[i].f0 < (0 : Int)
      · rw [if_pos a1, decide_eq_false (by omega)]; rfl
      · rw [if_neg a1]
        by_cases a2 : n.f0 ≤ n.f1[i].f0
        · rw [if_pos a2, decide_eq_false (by omega)]; rfl
        · rw [if_neg a2]
          by_cases a3 : n.f1[i].f1 < (0 : Int)
          · rw [if_pos a3, decide_eq_false (by omega)]; rfl
          · rw [if_neg a3]
            by_cases a4 : n.f0 ≤ n.f1[i].f1
            · rw [decide_eq_true a4, decide_eq_false (by omega)]; rfl
            · rw [decide_eq_false a4, decide_eq_true (by omega)]; rfl
    rw [key, Option.bind_some, List.all_cons]
    cases edB n n.f1[i]
    · rw [if_pos (by decide)]; rfl
    · rw [if_neg (by decide), Bool.true_and]
theorem right_eq (n : S121) (hl : n.f1.length ≤ 1000) : F95 5000 n = some (rtB n) := by
  unfold F95 rtB rt0
  have key : (if n.f2 < (0 : Int) then some true else if n.f0 ≤ n.f2 then some true else if n.f3 < (0 : Int) then some true else some (decide (n.f0 ≤ n.f3))) = some (!decide (0 ≤ n.f2 ∧ n.f2 < n.f0 ∧ 0 ≤ n.f3 ∧ n.f3 < n.f0)) := by
    by_cases a1 : n.f2 < (0 : Int)
    · rw [if_pos a1, decide_eq_false (by omega)]; rfl
    · rw [if_neg a1]
      by_cases a2 : n.f0 ≤ n.f2
      · rw [if_pos a2, decide_eq_false (by omega)]; rfl
      · rw [if_neg a2]
        by_cases a3 : n.f3 < (0 : Int)
        · rw [if_pos a3, decide_eq_false (by omega)]; rfl
        · rw [if_neg a3]
          by_cases a4 : n.f0 ≤ n.f3
          · rw [decide_eq_true a4, decide_eq_false (by omega)]; rfl
          · rw [decide_eq_false a4, decide_eq_true (by omega)]; rfl
  have := right_l n hl n.f1.length 0 5000 (by omega) (by omega)
  rw [key, Option.bind_some]
  cases decide (0 ≤ n.f2 ∧ n.f2 < n.f0 ∧ 0 ≤ n.f3 ∧ n.f3 < n.f0)
  · rfl
  · simpa using this

/-- A machine whose states are all there, not too large. -/
structure Rt (n : S121) : Prop where
  first : 0 ≤ n.f2 ∧ n.f2 < n.f0
  last : 0 ≤ n.f3 ∧ n.f3 < n.f0
  ed : ∀ e ∈ n.f1, 0 ≤ e.f0 ∧ e.f0 < n.f0 ∧ 0 ≤ e.f1 ∧ e.f1 < n.f0
  n1 : n.f0 ≤ 1000
  n2 : n.f1.length ≤ 1000
  u : ∀ e ∈ n.f1, U e.f2
theorem Rt.nn {n : S121} (h : Rt n) : ((NN n : Nat) : Int) = n.f0 := by have := h.first; unfold NN; omega
theorem Rt.rt {n : S121} (h : Rt n) : rtB n = true := by
  simp only [rtB, rt0, Bool.and_eq_true, decide_eq_true_eq, List.all_eq_true, edB]
  exact ⟨⟨h.first.1, h.first.2, h.last⟩, h.ed⟩

/-! Free edges. -/
def st1 (s : List Bool × Bool) (e : S152) : List Bool × Bool := if e.f3 = true ∧ lget s.1 e.f0 = true ∧ lget s.1 e.f1 = false then (lset s.1 e.f1 true, true) else s
def pass (l : List S152) (s : List Bool × Bool) : List Bool × Bool := l.foldl st1 s
theorem st1_len (s : List Bool × Bool) (e : S152) : (st1 s e).1.length = s.1.length := by
  unfold st1; split
  · exact lset_len _ _ _
  · rfl
theorem pass_len : ∀ (l : List S152) (s : List Bool × Bool), (pass l s).1.length = s.1.length
  | [], s => rfl
  | e :: l, s => by
    show (pass l (st1 s e)).1.length = _
    rw [pass_len l, st1_len]
theorem guard22 {x : List Bool} {e : S152} (N : Nat) (hx : x.length = N) (he : 0 ≤ e.f0 ∧ e.f0 < (N : Int) ∧ 0 ≤ e.f1 ∧ e.f1 < (N : Int)) :
    (if e.f3 = true then if 0 ≤ e.f0 ∧ e.f0 < (x.length : Int) then if (lget x e.f0) = true then if 0 ≤ e.f1 ∧ e.f1 < (x.length : Int) then some (!(lget x e.f1)) else none else some false else none else some false) = some (decide (e.f3 = true ∧ lget x e.f0 = true ∧ lget x e.f1 = false)) := by
  have g0 : 0 ≤ e.f0 ∧ e.f0 < (x.length : Int) := ⟨he.1, by omega⟩
  have g1 : 0 ≤ e.f1 ∧ e.f1 < (x.length : Int) := ⟨he.2.2.1, by omega⟩
  rw [if_pos g0, if_pos g1]
  cases e.f3 <;> cases lget x e.f0 <;> cases lget x e.f1 <;> simp
theorem close_l2 {n : S121} (h : Rt n) (rec9 : List Bool → Bool → Option (List Bool)) : ∀ (d i m : Nat) (x : List Bool) (b : Bool), i + d = n.f1.length → d < m → x.length = NN n →
    F99_l2 5000 rec9 n m x b (i : Int) = rec9 (pass (n.f1.drop i) (x, b)).1 (pass (n.f1.drop i) (x, b)).2
  | 0, i, m + 1, x, b, hi, _, hx => by
    rw [F99_l2.eq_2, if_neg (by omega), List.drop_of_length_le (by omega)]; rfl
  | d + 1, i, m + 1, x, b, hi, hm, hx => by
    have hi' : i < n.f1.length := by omega
    have g : 0 ≤ (i : Int) ∧ (i : Int) < (n.f1.length : Int) := ⟨by omega, by omega⟩
    have he := h.ed n.f1[i] (List.getElem_mem hi')
    have hN := h.n2
    have hf := h.first
    have hnn := h.nn
    rw [F99_l2.eq_2, if_pos g.2, if_pos g, lget_lt _ i hi', List.drop_eq_getElem_cons hi', guard22 (NN n) hx ⟨he.1, by have := he.2.1; omega, he.2.2.1, by have := he.2.2.2; omega⟩, Option.bind_some]
    show _ = rec9 (pass (n.f1.drop (i + 1)) (st1 (x, b) n.f1[i])).1 (pass (n.f1.drop (i + 1)) (st1 (x, b) n.f1[i])).2
    unfold st1
    by_cases q : n.f1[i].f3 = true ∧ lget x n.f1[i].f0 = true ∧ lget x n.f1[i].f1 = false
    · rw [if_pos (decide_eq_true q), if_pos q, if_pos ⟨he.2.2.1, by have := he.2.2.2; omega⟩, F99_c1, w64_id (by omega) (by omega)]
      have ih := close_l2 h rec9 d (i + 1) m (lset x n.f1[i].f1 true) true (by omega) (by omega) (by rw [lset_len, hx])
      exact_mod_cast ih
    · rw [if_neg (by simpa using q), if_neg q, F99_c1, w64_id (by omega) (by omega)]
      have ih := close_l2 h rec9 d (i + 1) m x b (by omega) (by omega) hx
      exact_mod_cast ih
/-- How many states. -/
def cnt (x : List Bool) : Nat := x.count true
theorem cnt_le (x : List Bool) : cnt x ≤ x.length := List.count_le_length
theorem cnt_set : ∀ (x : List Bool) (i : Nat), i < x.length → x[i]? = some false → cnt (x.set i true) = cnt x + 1
  | b :: x, 0, _, h => by simp at h; subst h; simp [cnt]
  | b :: x, i + 1, hi, h => by
    have := cnt_set x i (by simpa using hi) (by simpa using h)
    simp only [cnt, List.set_cons_succ, List.count_cons] at this ⊢
    omega
theorem st1_cnt (s : List Bool × Bool) (e : S152) (he : 0 ≤ e.f1 ∧ e.f1 < (s.1.length : Int)) : st1 s e = s ∨ ((st1 s e).2 = true ∧ cnt (st1 s e).1 = cnt s.1 + 1) := by
  unfold st1
  split
  · rename_i q
    refine .inr ⟨rfl, ?_⟩
    have hi : e.f1.toNat < s.1.length := by omega
    refine cnt_set s.1 e.f1.toNat hi ?_
    have := q.2.2
    unfold lget at this
    rw [List.getD, List.getElem?_eq_getElem hi] at this
    rw [List.getElem?_eq_getElem hi]; simpa using this
  · exact .inl rfl
theorem pass_cnt (N : Int) : ∀ (l : List S152) (s : List Bool × Bool), (∀ e ∈ l, 0 ≤ e.f1 ∧ e.f1 < N) → (s.1.length : Int) = N → pass l s = s ∨ ((pass l s).2 = true ∧ cnt s.1 < cnt (pass l s).1)
  | [], s, _, _ => .inl rfl
  | e :: l, s, h, hs => by
    have ih := pass_cnt N l (st1 s e) (fun e' h' => h e' (by simp [h'])) (by rw [st1_len]; exact hs)
    show pass l (st1 s e) = s ∨ ((pass l (st1 s e)).2 = true ∧ cnt s.1 < cnt (pass l (st1 s e)).1)
    rcases st1_cnt s e (by rw [hs]; exact h e (by simp)) with q | ⟨q1, q2⟩
    · rw [q] at ih ⊢; exact ih
    · rcases ih with r | ⟨r1, r2⟩
      · rw [r]; exact .inr ⟨q1, by omega⟩
      · exact .inr ⟨r1, by omega⟩
/-- Round after round, as long as some state is new. -/
def cl (l : List S152) : Nat → List Bool → List Bool
  | 0, x => x
  | k + 1, x => if (pass l (x, false)).2 = true then cl l k (pass l (x, false)).1 else (pass l (x, false)).1
theorem cl_len (l : List S152) : ∀ (k : Nat) (x : List Bool), (cl l k x).length = x.length
  | 0, _ => rfl
  | k + 1, x => by
    rw [cl]; split
    · rw [cl_len l k, pass_len]
    · rw [pass_len]
theorem cl_more {n : S121} (h : Rt n) : ∀ (j : Nat) (x : List Bool), x.length = NN n → NN n - cnt x < j → cl n.f1 j x = cl n.f1 (j + 1) x
  | 0, x, _, h => by omega
  | j + 1, x, hx, hj => by
    rw [cl, cl]
    split
    · rename_i q
      have hp := pass_len n.f1 (x, false)
      have hle := cnt_le (pass n.f1 (x, false)).1
      have hf := h.first
      have hnn := h.nn
      rcases pass_cnt n.f0 n.f1 (x, false) (fun e he => ⟨(h.ed e he).2.2.1, (h.ed e he).2.2.2⟩) (by show (x.length : Int) = _; omega) with r | ⟨_, r⟩
      · rw [r] at q; cases q
      · have r' : cnt x < cnt (pass n.f1 (x, false)).1 := r
        have hp' : (pass n.f1 (x, false)).1.length = x.length := hp
        exact cl_more h j _ (hp'.trans hx) (by rw [hp'] at hle; omega)
    · rfl
/-- All that free edges lead to. -/
def CL (n : S121) (x : List Bool) : List Bool := cl n.f1 (NN n + 1) x
theorem CL_len (n : S121) (x : List Bool) : (CL n x).length = x.length := cl_len _ _ _
theorem cl_CL {n : S121} (h : Rt n) {x : List Bool} (hx : x.length = NN n) : ∀ {j : Nat}, NN n - cnt x < j → cl n.f1 j x = CL n x := by
  have up : ∀ (d j : Nat), NN n - cnt x < j → cl n.f1 j x = cl n.f1 (j + d) x := by
    intro d
    induction d with
    | zero => intro j _; rfl
    | succ d ih => intro j hj; rw [ih j hj, cl_more h (j + d) x hx (by omega)]; rfl
  intro j hj
  unfold CL
  rcases Nat.le_total j (NN n + 1) with q | q
  · have := up (NN n + 1 - j) j hj; rwa [show j + (NN n + 1 - j) = NN n + 1 by omega] at this
  · have := up (j - (NN n + 1)) (NN n + 1) (by omega); rw [show NN n + 1 + (j - (NN n + 1)) = j by omega] at this; exact this.symm
theorem close_l3 {n : S121} (h : Rt n) : ∀ (m : Nat) (x : List Bool), x.length = NN n → NN n - cnt x + 1 < m → F99_l3 5000 n m x true = some (cl n.f1 m x)
  | m + 1, x, hx, hm => by
    have h2 := h.n2
    rw [F99_l3.eq_2, if_pos rfl]
    have e := close_l2 h (F99_l3 5000 n m) n.f1.length 0 5000 x false (by omega) (by omega) hx
    rw [Int.natCast_zero, List.drop_zero] at e
    rw [e, cl]
    have hp := pass_len n.f1 (x, false)
    have hp' : (pass n.f1 (x, false)).1.length = x.length := hp
    by_cases q : (pass n.f1 (x, false)).2 = true
    · rw [if_pos q, q]
      have hf := h.first
      have hnn := h.nn
      have hle := cnt_le (pass n.f1 (x, false)).1
      rcases pass_cnt n.f0 n.f1 (x, false) (fun e he => ⟨(h.ed e he).2.2.1, (h.ed e he).2.2.2⟩) (by show (x.length : Int) = _; omega) with r | ⟨_, r⟩
      · rw [r] at q; cases q
      · have r' : cnt x < cnt (pass n.f1 (x, false)).1 := r
        exact close_l3 h m _ (hp'.trans hx) (by rw [hp'] at hle; omega)
    · rw [if_neg q]
      cases m with
      | zero => omega
      | succ m => rw [F99_l3.eq_2, if_neg q, F99_c0]
/-- The states handed on: so many, those that lack are none. -/
def ini (n : S121) (x : List Bool) : List Bool := lcopy (List.replicate (NN n) false) x
theorem ini_len (n : S121) (x : List Bool) : (ini n x).length = NN n := by unfold ini; rw [lcopy_len, List.length_replicate]
theorem ini_self {n : S121} {x : List Bool} (hx : x.length = NN n) : ini n x = x := by
  unfold ini lcopy
  rw [List.length_replicate, List.take_of_length_le (by omega), List.drop_of_length_le (by simp; omega), List.append_nil]
theorem close_eq {n : S121} (h : Rt n) (x : List Bool) : F99 5000 n x = some (CL n (ini n x)) := by
  have h1 := h.n1
  have hf := h.first
  have hnn := h.nn
  unfold F99
  rw [show n.f0.toNat = NN n from rfl]
  rw [if_pos ⟨by omega, by omega, by omega⟩]
  show F99_l3 5000 n 5000 (ini n x) true = _
  rw [close_l3 h 5000 _ (ini_len n x) (by omega), cl_CL h (ini_len n x) (by omega)]
/-! By a byte. -/
def mv1 (x : List Bool) (b : Nat) (o : List Bool) (e : S152) : List Bool := if e.f3 = false ∧ e.f0 < (x.length : Int) ∧ lget x e.f0 = true ∧ tb e.f2 b = true then lset o e.f1 true else o
def MV (n : S121) (x : List Bool) (b : Nat) : List Bool := n.f1.foldl (mv1 x b) (List.replicate (NN n) false)
theorem mv1_len (x : List Bool) (b : Nat) (o : List Bool) (e : S152) : (mv1 x b o e).length = o.length := by
  unfold mv1; split
  · exact lset_len _ _ _
  · rfl
theorem mvf_len (x : List Bool) (b : Nat) : ∀ (l : List S152) (o : List Bool), (l.foldl (mv1 x b) o).length = o.length
  | [], _ => rfl
  | e :: l, o => by rw [List.foldl_cons, mvf_len x b l, mv1_len]
theorem MV_len (n : S121) (x : List Bool) (b : Nat) : (MV n x b).length = NN n := by unfold MV; rw [mvf_len, List.length_replicate]
theorem guard16 {x : List Bool} {e : S152} {t : Option Bool} {b : Nat} (he : 0 ≤ e.f0) (ht : t = some (tb e.f2 b)) :
    (if (!(e.f3)) = true then if e.f0 < (x.length : Int) then if 0 ≤ e.f0 ∧ e.f0 < (x.length : Int) then if (lget x e.f0) = true then t.bind fun t22 => some (t22) else some (false) else none else some (false) else some (false)) = some (decide (e.f3 = false ∧ e.f0 < (x.length : Int) ∧ lget x e.f0 = true ∧ tb e.f2 b = true)) := by
  subst ht
  by_cases q : e.f0 < (x.length : Int)
  · cases e.f3 <;> cases lget x e.f0 <;> simp [q, he]
  · cases e.f3 <;> simp [q]
theorem move_l {n : S121} (h : Rt n) (x : List Bool) {b : Nat} (hb : b < 256) : ∀ (d i m : Nat) (o : List Bool), i + d = n.f1.length → d < m → o.length = NN n →
    F100_l2 5000 n x (b : Int) m o (i : Int) = some ((n.f1.drop i).foldl (mv1 x b) o)
  | 0, i, m + 1, o, hi, _, ho => by
    rw [F100_l2.eq_2, if_neg (by omega), List.drop_of_length_le (by omega), F100_c0]; rfl
  | d + 1, i, m + 1, o, hi, hm, ho => by
    have hi' : i < n.f1.length := by omega
    have g : 0 ≤ (i : Int) ∧ (i : Int) < (n.f1.length : Int) := ⟨by omega, by omega⟩
    have he := h.ed n.f1[i] (List.getElem_mem hi')
    have hN := h.n2
    have hf := h.first
    have hnn := h.nn
    rw [F100_l2.eq_2, if_pos g.2, if_pos g, lget_lt _ i hi', List.drop_eq_getElem_cons hi', guard16 he.1 (has_eq (h.u _ (List.getElem_mem hi')) hb), Option.bind_some, List.foldl_cons]
    unfold mv1
    by_cases q : n.f1[i].f3 = false ∧ n.f1[i].f0 < (x.length : Int) ∧ lget x n.f1[i].f0 = true ∧ tb n.f1[i].f2 b = true
    · rw [if_pos (decide_eq_true q), if_pos q, if_pos ⟨he.2.2.1, by have := he.2.2.2; omega⟩, F100_c1, w64_id (by omega) (by omega)]
      have ih := move_l h x hb d (i + 1) m (lset o n.f1[i].f1 true) (by omega) (by omega) (by rw [lset_len, ho])
      unfold mv1 at ih
      exact_mod_cast ih
    · rw [if_neg (by simpa using q), if_neg q, F100_c1, w64_id (by omega) (by omega)]
      have ih := move_l h x hb d (i + 1) m o (by omega) (by omega) ho
      unfold mv1 at ih
      exact_mod_cast ih
theorem move_eq {n : S121} (h : Rt n) (x : List Bool) {c : Int} (h0 : 0 ≤ c) (h1 : c ≤ 255) : F100 5000 n x c = some (MV n x c.toNat) := by
  obtain ⟨b, rfl⟩ := Int.eq_ofNat_of_zero_le h0
  have hn1 := h.n1
  have hn2 := h.n2
  have hf := h.first
  have hnn := h.nn
  unfold F100
  rw [show n.f0.toNat = NN n from rfl]
  rw [if_pos ⟨by omega, by omega, by omega⟩]
  have := move_l h x (b := b) (by omega) n.f1.length 0 5000 (List.replicate (NN n) false) (by omega) (by omega) (by simp)
  rw [Int.natCast_zero, List.drop_zero] at this
  exact this
end Go.Avl.T7
/- Machines that may be in several states: which states they reach. -/
namespace Go.Avl.T7
open Go Go.RowKit Go.Proofs Go.Avl
set_option linter.all false
set_option maxRecDepth 10000

theorem lget_lset (l : List Bool) (i q : Int) (h0 : 0 ≤ i) (h1 : i < (l.length : Int)) (hq : 0 ≤ q) : lget (lset l i true) q = (decide (q = i) || lget l q) := by
  unfold lget lset
  rw [List.getD, List.getD, List.getElem?_set]
  by_cases e : i.toNat = q.toNat
  · rw [if_pos e, if_pos (by omega), decide_eq_true (by omega)]; rfl
  · rw [if_neg e, decide_eq_false (by omega)]; rfl
/-- By free edges. -/
inductive FR (l : List S152) : Int → Int → Prop
  | refl (p : Int) : FR l p p
  | tail {p : Int} {e : S152} : FR l p e.f0 → e ∈ l → e.f3 = true → FR l p e.f1
theorem FR.trans {l : List S152} {p q r : Int} (h : FR l p q) (k : FR l q r) : FR l p r := by
  induction k with
  | refl => exact h
  | tail _ he hf ih => exact .tail ih he hf
/-- All of a row is reached from another one. -/
def Snd (L : List S152) (x o : List Bool) : Prop := ∀ q : Int, 0 ≤ q → lget o q = true → ∃ p, 0 ≤ p ∧ lget x p = true ∧ FR L p q
theorem st1_snd {L : List S152} {x : List Bool} {s : List Bool × Bool} {e : S152} (he : e ∈ L) (h0 : 0 ≤ e.f0) (h1 : 0 ≤ e.f1 ∧ e.f1 < (s.1.length : Int)) (h : Snd L x s.1) : Snd L x (st1 s e).1 := by
  unfold st1
  split
  · rename_i c
    intro q hq hg
    simp only [] at hg
    rw [lget_lset s.1 e.f1 q h1.1 h1.2 hq, Bool.or_eq_true, decide_eq_true_eq] at hg
    rcases hg with rfl | hg
    · obtain ⟨p, p1, p2, p3⟩ := h e.f0 h0 c.2.1
      exact ⟨p, p1, p2, .tail p3 he c.1⟩
    · exact h q hq hg
  · exact h
theorem pass_snd {L : List S152} {x : List Bool} {N : Int} : ∀ (l : List S152) (s : List Bool × Bool), (∀ e ∈ l, e ∈ L ∧ 0 ≤ e.f0 ∧ 0 ≤ e.f1 ∧ e.f1 < N) → (s.1.length : Int) = N → Snd L x s.1 → Snd L x (pass l s).1
  | [], s, _, _, h => h
  | e :: l, s, hl, hs, h => by
    have he := hl e (by simp)
    show Snd L x (pass l (st1 s e)).1
    exact pass_snd l _ (fun e' h' => hl e' (by simp [h'])) (by rw [st1_len]; exact hs) (st1_snd he.1 he.2.1 ⟨he.2.2.1, by rw [hs]; exact he.2.2.2⟩ h)
theorem st1_mono {s : List Bool × Bool} {e : S152} (h1 : 0 ≤ e.f1 ∧ e.f1 < (s.1.length : Int)) {q : Int} (hq : 0 ≤ q) (h : lget s.1 q = true) : lget (st1 s e).1 q = true := by
  unfold st1
  split
  · show lget (lset s.1 e.f1 true) q = true
    rw [lget_lset s.1 e.f1 q h1.1 h1.2 hq, h, Bool.or_true]
  · exact h
theorem pass_mono {N : Int} {q : Int} (hq : 0 ≤ q) : ∀ (l : List S152) (s : List Bool × Bool), (∀ e ∈ l, 0 ≤ e.f1 ∧ e.f1 < N) → (s.1.length : Int) = N → lget s.1 q = true → lget (pass l s).1 q = true
  | [], s, _, _, h => h
  | e :: l, s, hl, hs, h => by
    show lget (pass l (st1 s e)).1 q = true
    exact pass_mono hq l _ (fun e' h' => hl e' (by simp [h'])) (by rw [st1_len]; exact hs) (st1_mono (by rw [hs]; exact hl e (by simp)) hq h)
theorem pass_flag : ∀ (l : List S152) (s : List Bool × Bool), s.2 = true → (pass l s).2 = true
  | [], s, h => h
  | e :: l, s, h => by
    show (pass l (st1 s e)).2 = true
    refine pass_flag l _ ?_
    unfold st1
    split
    · rfl
    · exact h
theorem pass_closed : ∀ (l : List S152) (x : List Bool), (pass l (x, false)).2 = false → (pass l (x, false)).1 = x ∧ ∀ e ∈ l, e.f3 = true → lget x e.f0 = true → lget x e.f1 = true
  | [], x, _ => ⟨rfl, fun e he => by cases he⟩
  | e :: l, x, h => by
    have h' : (pass l (st1 (x, false) e)).2 = false := h
    show (pass l (st1 (x, false) e)).1 = x ∧ _
    have hs : st1 (x, false) e = (x, false) ∧ ¬ (e.f3 = true ∧ lget x e.f0 = true ∧ lget x e.f1 = false) := by
      by_cases c : e.f3 = true ∧ lget x e.f0 = true ∧ lget x e.f1 = false
      · have hf : (st1 (x, false) e).2 = true := by unfold st1; rw [if_pos c]
        rw [pass_flag l _ hf] at h'; cases h'
      · exact ⟨by unfold st1; rw [if_neg c], c⟩
    rw [hs.1] at h' ⊢
    obtain ⟨k1, k2⟩ := pass_closed l x h'
    refine ⟨k1, fun e' he' f1 f2 => ?_⟩
    rcases List.mem_cons.1 he' with rfl | he'
    · cases q : lget x e'.f1 with
      | true => rfl
      | false => exact absurd ⟨f1, f2, q⟩ hs.2
    · exact k2 e' he' f1 f2
theorem cl_snd {n : S121} (h : Rt n) {x0 : List Bool} : ∀ (k : Nat) (x : List Bool), x.length = NN n → Snd n.f1 x0 x → Snd n.f1 x0 (cl n.f1 k x)
  | 0, x, _, hs => hs
  | k + 1, x, hx, hs => by
    have hnn := h.nn
    have hp := pass_snd (L := n.f1) (x := x0) (N := n.f0) n.f1 (x, false) (fun e he => ⟨he, (h.ed e he).1, (h.ed e he).2.2.1, (h.ed e he).2.2.2⟩) (by show (x.length : Int) = _; omega) hs
    rw [cl]
    split
    · exact cl_snd h k _ ((pass_len _ _).trans hx) hp
    · exact hp
theorem cl_mono {n : S121} (h : Rt n) {q : Int} (hq : 0 ≤ q) : ∀ (k : Nat) (x : List Bool), x.length = NN n → lget x q = true → lget (cl n.f1 k x) q = true
  | 0, x, _, hs => hs
  | k + 1, x, hx, hs => by
    have hnn := h.nn
    have hp := pass_mono (N := n.f0) hq n.f1 (x, false) (fun e he => ⟨(h.ed e he).2.2.1, (h.ed e he).2.2.2⟩) (by show (x.length : Int) = _; omega) hs
    rw [cl]
    split
    · exact cl_mono h hq k _ ((pass_len _ _).trans hx) hp
    · exact hp
theorem cl_closed {n : S121} (h : Rt n) : ∀ (k : Nat) (x : List Bool), x.length = NN n → NN n - cnt x < k → ∀ e ∈ n.f1, e.f3 = true → lget (cl n.f1 k x) e.f0 = true → lget (cl n.f1 k x) e.f1 = true
  | 0, x, _, hk => by omega
  | k + 1, x, hx, hk => by
    have hnn := h.nn
    rw [cl]
    split
    · rename_i q
      have hp := pass_len n.f1 (x, false)
      have hp' : (pass n.f1 (x, false)).1.length = x.length := hp
      have hle := cnt_le (pass n.f1 (x, false)).1
      rcases pass_cnt n.f0 n.f1 (x, false) (fun e he => ⟨(h.ed e he).2.2.1, (h.ed e he).2.2.2⟩) (by show (x.length : Int) = _; omega) with r | ⟨_, r⟩
      · rw [r] at q; cases q
      · have r' : cnt x < cnt (pass n.f1 (x, false)).1 := r
        exact cl_closed h k _ (hp'.trans hx) (by rw [hp'] at hle; omega)
    · rename_i q
      obtain ⟨k1, k2⟩ := pass_closed n.f1 x (by simpa using q)
      rw [k1]; exact k2
/-- What stands in a closed row. -/
theorem CL_iff {n : S121} (h : Rt n) {x : List Bool} (hx : x.length = NN n) {q : Int} (hq : 0 ≤ q) : lget (CL n x) q = true ↔ ∃ p, 0 ≤ p ∧ lget x p = true ∧ FR n.f1 p q := by
  constructor
  · intro hg
    exact cl_snd h (NN n + 1) x hx (fun q h0 h1 => ⟨q, h0, h1, .refl q⟩) q hq hg
  · rintro ⟨p, p0, p1, p2⟩
    have base := cl_mono h p0 (NN n + 1) x hx p1
    have key : ∀ r, FR n.f1 p r → lget (CL n x) r = true := by
      intro r hr
      induction hr with
      | refl => exact base
      | tail _ he hf ih => exact cl_closed h (NN n + 1) x hx (by omega) _ he hf ih
    exact key q p2
/-- The states that a text leads to. -/
inductive Rch (n : S121) (s : ByteArray) : Nat → Int → Prop
  | start : Rch n s 0 n.f2
  | free {i : Nat} {e : S152} : Rch n s i e.f0 → e ∈ n.f1 → e.f3 = true → Rch n s i e.f1
  | byte {i : Nat} {e : S152} : Rch n s i e.f0 → e ∈ n.f1 → e.f3 = false → tb e.f2 (byteAt s i).toNat = true → Rch n s (i + 1) e.f1
theorem Rch.fr {n : S121} {s : ByteArray} {i : Nat} {p q : Int} (h : Rch n s i p) (k : FR n.f1 p q) : Rch n s i q := by
  induction k with
  | refl => exact h
  | tail _ he hf ih => exact .free ih he hf
end Go.Avl.T7
/- subset: the sets of a machine, classes of bytes, their least bytes. -/
namespace Go.Avl.T7
open Go Go.RowKit Go.Proofs Go.Avl
set_option linter.all false
set_option maxRecDepth 10000

theorem w6 {x : Int} (h0 : -1000000000000 ≤ x) (h1 : x ≤ 1000000000000) : w64 x = x := w64_id (by omega) (by omega)
/-- The sets of the edges that aren't free. -/
def ss : List S152 → List (Vector Int 4)
  | [] => []
  | e :: l => if e.f3 = true then ss l else e.f2 :: ss l
theorem ss_len : ∀ l, (ss l).length ≤ l.length
  | [] => Nat.le_refl _
  | e :: l => by
    have := ss_len l
    unfold ss
    split <;> simp <;> omega
theorem ss_U : ∀ {l : List S152}, (∀ e ∈ l, U e.f2) → ∀ a ∈ ss l, U a
  | [], _, a, h => by cases h
  | e :: l, hu, a, h => by
    unfold ss at h
    split at h
    · exact ss_U (fun e' h' => hu e' (by simp [h'])) a h
    · rcases List.mem_cons.1 h with rfl | h
      · exact hu e (by simp)
      · exact ss_U (fun e' h' => hu e' (by simp [h'])) a h
theorem sets_l (n : S121) (hz : n.f1.length ≤ 1000) : ∀ (m i fuel : Nat) (a : List (Vector Int 4)), i + m = n.f1.length → m < fuel → a.length ≤ i → F97_l2 5000 n fuel a (i : Int) = some (a ++ ss (n.f1.drop i))
  | 0, i, f + 1, a, hi, _, _ => by
    rw [F97_l2.eq_2, if_neg (by omega), List.drop_of_length_le (by omega), ss, List.append_nil]; rfl
  | m + 1, i, f + 1, a, hi, hf, ha => by
    have hi' : i < n.f1.length := by omega
    rw [F97_l2.eq_2, if_pos (by omega), if_pos ⟨by omega, by omega⟩, lget_lt _ i hi', List.drop_eq_getElem_cons hi', ss]
    unfold F97_c1
    rw [w6 (by omega) (by omega)]
    cases b : n.f1[i].f3 with
    | true =>
      rw [if_neg (by decide), if_pos rfl]
      exact_mod_cast sets_l n hz m (i + 1) f a (by omega) (by omega) (by omega)
    | false =>
      have ih := sets_l n hz m (i + 1) f (a ++ [n.f1[i].f2]) (by omega) (by omega) (by simp; omega)
      rw [List.append_assoc] at ih
      rw [if_pos (by decide), if_pos (by simp; omega), if_neg (by decide)]; exact_mod_cast ih
theorem sets_eq (n : S121) (hz : n.f1.length ≤ 1000) : F97 5000 n = some (ss n.f1) := by
  have := sets_l n hz n.f1.length 0 5000 [] (by omega) (by omega) (by simp)
  rw [Int.natCast_zero, List.drop_zero, List.nil_append] at this
  exact this
/-- What a machine's classes are. -/
structure CK (n : S121) (kk : Nat → ByteArray) : Prop where
  hk : ∀ b : Nat, b < 256 → F122 5000 (ss n.f1) (b : Int) = some (kk b)
  iff : ∀ b c : Nat, b < 256 → c < 256 → (kk b = kk c ↔ ∀ x, sg (ss n.f1) b x = sg (ss n.f1) c x)
  U : ∀ a ∈ ss n.f1, U a
  len : (ss n.f1).length ≤ 1000
theorem CK_ex (n : S121) (hz : n.f1.length ≤ 1000) (hu : ∀ e ∈ n.f1, U e.f2) : ∃ kk, CK n kk := by
  have hL := ss_U hu
  have hn : (ss n.f1).length ≤ 1000 := by have := ss_len n.f1; omega
  let kk : Nat → ByteArray := fun b => (F122 5000 (ss n.f1) (b : Int)).getD ByteArray.empty
  have hkk : ∀ b : Nat, b < 256 → ∃ row, F122 5000 (ss n.f1) (b : Int) = some (strOfNums row) ∧ kk b = strOfNums row ∧ Row8 (ss n.f1) b (((ss n.f1).length + 7) / 8) (ss n.f1).length row := by
    intro b hb
    obtain ⟨row, e, hr⟩ := key_eq (ss n.f1) hL hn b hb
    exact ⟨row, e, by show (F122 5000 (ss n.f1) (b : Int)).getD _ = _; rw [e]; rfl, hr⟩
  refine ⟨kk, ?_, ?_, hL, hn⟩
  · intro b hb
    obtain ⟨row, e, e2, _⟩ := hkk b hb
    rw [e, e2]
  · intro b c hb hc
    obtain ⟨r, _, e1, h1⟩ := hkk b hb
    obtain ⟨s, _, e2, h2⟩ := hkk c hc
    rw [e1, e2]
    exact row_iff (by omega) h1 h2
theorem CK.classes {n : S121} {kk : Nat → ByteArray} (h : CK n kk) : ∃ v, F96 5000 (ss n.f1) = some v ∧ ∀ c : Nat, c < 256 → vget v (c : Int) = (ck kk c : Int) := by
  obtain ⟨v, v1, v2⟩ := bclasses_l kk h.hk 256 0 5000 (Vector.replicate 256 0) [] (by omega) (by omega) ⟨rfl, fun c hc => by omega, fun s _ => rfl⟩ (fun c hc => by omega)
  exact ⟨v, v1, v2⟩
/-- The least bytes of the classes, rising, from one on. -/
def rps (kk : Nat → ByteArray) : Nat → Nat → List Nat
  | 0, _ => []
  | m + 1, b => if rc kk b = b then b :: rps kk m (b + 1) else rps kk m (b + 1)
theorem rps_len (kk : Nat → ByteArray) : ∀ m b, (rps kk m b).length + nc kk b = nc kk (b + m)
  | 0, b => by simp [rps]
  | m + 1, b => by
    have ih := rps_len kk m (b + 1)
    rw [show b + (m + 1) = b + 1 + m by omega, ← ih, rps, nc]
    split <;> simp <;> omega
theorem rps_mem (kk : Nat → ByteArray) : ∀ m b r, r ∈ rps kk m b → b ≤ r ∧ r < b + m ∧ rc kk r = r
  | 0, _, _, h => by cases h
  | m + 1, b, r, h => by
    rw [rps] at h
    split at h
    · next q =>
      rcases List.mem_cons.1 h with rfl | h
      · exact ⟨Nat.le_refl _, by omega, q⟩
      · have := rps_mem kk m (b + 1) r h; omega
    · have := rps_mem kk m (b + 1) r h; omega
def RP (kk : Nat → ByteArray) : List Nat := rps kk 256 0
theorem RP_len (kk : Nat → ByteArray) : (RP kk).length ≤ 256 := by
  have := rps_len kk 256 0
  have h2 := nc_le kk (0 + 256)
  unfold RP; omega
theorem RP_lt (kk : Nat → ByteArray) {r : Nat} (h : r ∈ RP kk) : r < 256 := by have := rps_mem kk 256 0 r h; omega
end Go.Avl.T7
/- subset: keys of states, marks, numbers of states. -/
namespace Go.Avl.T7
open Go Go.RowKit Go.Proofs Go.Avl
set_option linter.all false
set_option maxRecDepth 10000

def vb (b : Bool) : Vector Int 4 := if b = true then vset (Vector.replicate 4 (0 : Int)) (0 : Int) 1 else Vector.replicate 4 (0 : Int)
theorem vb_U (b : Bool) : U (vb b) := by
  intro j hj
  have : j = 0 ∨ j = 1 ∨ j = 2 ∨ j = 3 := by omega
  cases b <;> rcases this with rfl | rfl | rfl | rfl <;> decide
theorem vb_tb (b : Bool) : tb (vb b) 0 = b := by cases b <;> decide
theorem vb_get (t : List Bool) (i : Nat) (hi : i < t.length) : lget (t.map vb) (i : Int) = vb (lget t (i : Int)) := by
  rw [lget_lt _ i (by simpa using hi), lget_lt _ i hi, List.getElem_map]
theorem skey_l (t : List Bool) (hz : t.length ≤ 1000) : ∀ (m i fuel : Nat) (row : List Int), i + m = t.length → m < fuel → F123_l2 5000 t fuel row (i : Int) = F122_l2 5000 (t.map vb) 0 fuel row (i : Int)
  | 0, i, f + 1, row, hi, _ => by
    rw [F123_l2.eq_2, F122_l2.eq_2, List.length_map, if_neg (by omega), if_neg (by omega)]; rfl
  | m + 1, i, f + 1, row, hi, hf => by
    have hi' : i < t.length := by omega
    have c1 : (i : Int) < (t.length : Int) := by omega
    have c2 : 0 ≤ (i : Int) ∧ (i : Int) < (t.length : Int) := ⟨by omega, c1⟩
    have hh : F125 5000 (lget (t.map vb) (i : Int)) 0 = some (lget t (i : Int)) := by
      have := has_eq (vb_U (lget t (i : Int))) (x := 0) (by omega)
      rw [vb_get t i hi']
      rw [vb_tb] at this
      exact_mod_cast this
    have ih := fun row => skey_l t hz m (i + 1) f row (by omega) (by omega)
    rw [F123_l2.eq_2, F122_l2.eq_2, List.length_map]
    simp only [if_pos c1, if_pos c2, hh, Option.bind_some]
    unfold F123_c1 F122_c1
    have e : w64 ((i : Int) + 1) = ((i + 1 : Nat) : Int) := by rw [w6 (by omega) (by omega)]; omega
    simp only [e, ih]
def skey (t : List Bool) : ByteArray := (F123 5000 t).getD ByteArray.empty
theorem skey_row (t : List Bool) (hz : t.length ≤ 1000) : ∃ row, F123 5000 t = some (strOfNums row) ∧ Row8 (t.map vb) 0 ((t.length + 7) / 8) t.length row := by
  obtain ⟨row, r1, r2⟩ := key_eq (t.map vb) (fun a ha => by obtain ⟨b, _, rfl⟩ := List.mem_map.1 ha; exact vb_U b) (by simpa using hz) 0 (by omega)
  refine ⟨row, ?_, by simpa using r2⟩
  rw [Int.natCast_zero] at r1
  rw [← r1]
  unfold F123 F122
  rw [List.length_map]
  have := fun row => skey_l t hz t.length 0 5000 row (by omega) (by omega)
  simp only [Int.natCast_zero] at this
  simp only [this, Int.natCast_zero]
theorem skey_eq (t : List Bool) (hz : t.length ≤ 1000) : F123 5000 t = some (skey t) := by
  obtain ⟨row, r, _⟩ := skey_row t hz
  unfold skey; rw [r]; rfl
theorem sg_vb (t : List Bool) (x : Nat) : sg (t.map vb) 0 x = lget t (x : Int) := by
  unfold sg lget
  rw [Int.toNat_natCast, List.length_map]
  by_cases h : x < t.length
  · rw [decide_eq_true h, Bool.true_and, List.getD, List.getElem?_map, List.getD, List.getElem?_eq_getElem h]
    exact vb_tb _
  · rw [decide_eq_false h, Bool.false_and, List.getD, List.getElem?_eq_none (by omega)]; rfl
theorem skey_inj {t u : List Bool} (hl : t.length = u.length) (hz : t.length ≤ 1000) (h : skey t = skey u) : t = u := by
  obtain ⟨r, r1, r2⟩ := skey_row t hz
  obtain ⟨s, s1, s2⟩ := skey_row u (by omega)
  have e : strOfNums r = strOfNums s := by
    have h1 : skey t = strOfNums r := by unfold skey; rw [r1]; rfl
    have h2 : skey u = strOfNums s := by unfold skey; rw [s1]; rfl
    rw [← h1, ← h2, h]
  apply List.ext_getElem hl
  intro i h1 h2
  have hr : bt r i = lget t (i : Int) := by rw [r2.2.2 i (by omega), decide_eq_true h1, Bool.true_and, sg_vb]
  have hs : bt s i = lget u (i : Int) := by rw [s2.2.2 i (by omega), decide_eq_true h2, Bool.true_and, sg_vb]
  have := strOf_inj r2.2.1 s2.2.1 e
  rw [this, hs] at hr
  rw [lget_lt _ i h1, lget_lt _ i h2] at hr
  exact hr.symm
/-! Marks. -/
def mk1 (M : List Int) (t : List Bool) (i : Nat) (o : Int) : Int := if lget t (i : Int) = true ∧ i < M.length ∧ 0 ≤ lget M (i : Int) ∧ (o < 0 ∨ lget M (i : Int) < o) then lget M (i : Int) else o
def mkl (M : List Int) (t : List Bool) : Nat → Nat → Int → Int
  | 0, _, o => o
  | m + 1, i, o => mkl M t m (i + 1) (mk1 M t i o)
def MK (M : List Int) (t : List Bool) : Int := mkl M t t.length 0 (-1)
theorem smark_l (x : S156) (t : List Bool) (hz : t.length ≤ 1000) : ∀ (m i fuel : Nat) (o : Int), i + m = t.length → m < fuel → F124_l2 5000 x t fuel o (i : Int) = some (mkl x.f1 t m i o)
  | 0, i, f + 1, o, hi, _ => by rw [F124_l2.eq_2, if_neg (by omega)]; rfl
  | m + 1, i, f + 1, o, hi, hf => by
    have ih := fun o => smark_l x t hz m (i + 1) f o (by omega) (by omega)
    rw [F124_l2.eq_2, if_pos (by omega), if_pos ⟨by omega, by omega⟩]
    unfold F135 F124_c1
    rw [w6 (x := (i : Int) + 1) (by omega) (by omega), mkl]
    by_cases a : (x.f1.length : Int) ≤ (i : Int)
    · have e : mk1 x.f1 t i o = o := by unfold mk1; rw [if_neg (by rintro ⟨_, q, _⟩; omega)]
      rw [if_pos a, Option.bind_some, e]
      have : (if lget t (i : Int) = true then if (0 : Int) ≤ -1 then if o < 0 then some true else some (decide ((-1 : Int) < o)) else some false else some false) = some false := by
        by_cases c : lget t (i : Int) = true
        · rw [if_pos c, if_neg (by decide)]
        · rw [if_neg c]
      rw [this, Option.bind_some, if_neg (by decide)]; exact_mod_cast ih o
    · rw [if_neg a, if_pos ⟨by omega, by omega⟩, Option.bind_some]
      have : (if lget t (i : Int) = true then if (0 : Int) ≤ lget x.f1 (i : Int) then if o < 0 then some true else some (decide (lget x.f1 (i : Int) < o)) else some false else some false) = some (decide (lget t (i : Int) = true ∧ i < x.f1.length ∧ 0 ≤ lget x.f1 (i : Int) ∧ (o < 0 ∨ lget x.f1 (i : Int) < o))) := by
        by_cases c : lget t (i : Int) = true
        · rw [if_pos c]
          by_cases d : (0 : Int) ≤ lget x.f1 (i : Int)
          · rw [if_pos d]
            by_cases g : o < 0
            · rw [if_pos g, decide_eq_true ⟨c, by omega, d, .inl g⟩]
            · rw [if_neg g]
              congr 1
              rw [decide_eq_decide]
              exact ⟨fun h => ⟨c, by omega, d, .inr h⟩, fun h => h.2.2.2.resolve_left g⟩
          · rw [if_neg d, decide_eq_false (fun h => d h.2.2.1)]
        · rw [if_neg c, decide_eq_false (fun h => c h.1)]
      rw [this, Option.bind_some]
      unfold mk1
      by_cases q : lget t (i : Int) = true ∧ i < x.f1.length ∧ 0 ≤ lget x.f1 (i : Int) ∧ (o < 0 ∨ lget x.f1 (i : Int) < o)
      · rw [if_pos (decide_eq_true q), if_pos q]; exact_mod_cast ih _
      · rw [if_neg (by simpa using q), if_neg q]; exact_mod_cast ih _
theorem smark_eq (x : S156) (t : List Bool) (hz : t.length ≤ 1000) : F124 5000 x t = some (MK x.f1 t) := by
  have := smark_l x t hz t.length 0 5000 (-1) (by omega) (by omega)
  rw [Int.natCast_zero] at this
  exact this
/-! Is one true? -/
def anyb (t : List Bool) : Bool := t.any id
theorem sany_l (x : S156) (t : List Bool) (hz : t.length ≤ 1000) : ∀ (m i fuel : Nat) (b : Bool), i + m = t.length → m < fuel → F98_l1 5000 x t fuel b (i : Int) = F98_c0 5000 x t (b || anyb (t.drop i))
  | 0, i, f + 1, b, hi, _ => by
    rw [F98_l1.eq_2, if_neg (by omega), List.drop_of_length_le (by omega)]
    show _ = F98_c0 5000 x t (b || false); rw [Bool.or_false]
  | m + 1, i, f + 1, b, hi, hf => by
    have hi' : i < t.length := by omega
    have ih := fun b => sany_l x t hz m (i + 1) f b (by omega) (by omega)
    rw [F98_l1.eq_2, if_pos (by omega), if_pos ⟨by omega, by omega⟩, lget_lt _ i hi', List.drop_eq_getElem_cons hi', w6 (by omega) (by omega)]
    show _ = F98_c0 5000 x t (b || (t[i] || anyb (t.drop (i + 1))))
    cases b with
    | true => rw [if_pos rfl, Option.bind_some, Bool.true_or]; have := ih true; rw [Bool.true_or] at this; exact_mod_cast this
    | false => rw [if_neg (by decide), Option.bind_some, Bool.false_or]; exact_mod_cast ih t[i]
/-! Where a set stands among others. -/
def ix : List (List Bool) → List Bool → Option Nat
  | [], _ => none
  | r :: R, t => if r = t then some 0 else (ix R t).map (· + 1)
theorem ix_app : ∀ (R : List (List Bool)) (s t : List Bool), ix (R ++ [s]) t = match ix R t with | some i => some i | none => if s = t then some R.length else none
  | [], s, t => by
    show (if s = t then some 0 else none) = _
    rfl
  | r :: R, s, t => by
    show (if r = t then some 0 else (ix (R ++ [s]) t).map (· + 1)) = match (if r = t then some 0 else (ix R t).map (· + 1)) with | some i => some i | none => if s = t then some (R.length + 1) else none
    by_cases a : r = t
    · rw [if_pos a, if_pos a]
    · rw [if_neg a, if_neg a, ix_app R s t]
      cases ix R t with
      | some i => rfl
      | none =>
        show Option.map (· + 1) (if s = t then some R.length else none) = if s = t then some (R.length + 1) else none
        split <;> rfl
/-- A set taken in: the sets then, its number. -/
def add (R : List (List Bool)) (t : List Bool) : List (List Bool) × Int :=
  if anyb t = true then match ix R t with | some i => (R, (i : Int)) | none => (R ++ [t], (R.length : Int)) else (R, -1)
def SeenOK (N : Nat) (m : List (ByteArray × Int)) (R : List (List Bool)) : Prop := ∀ t : List Bool, t.length = N → mget m (skey t) = (ix R t).map Int.ofNat
theorem state_eq {N : Nat} (hN : N ≤ 1000) {n : S121} {M rp : List Int} {m : List (ByteArray × Int)} {R : List (List Bool)} {c : Vector Int 256} {nx : List (List Int)} {t : List Bool} (ht : t.length = N) (hm : SeenOK N m R) (hR : R.length ≤ 100000) :
    ∃ m', F98 5000 (S156.mk n M rp m R (S55.mk c nx (R.map (MK M)))) t = some ((add R t).2, S156.mk n M rp m' (add R t).1 (S55.mk c nx ((add R t).1.map (MK M)))) ∧ SeenOK N m' (add R t).1 := by
  have := sany_l (S156.mk n M rp m R (S55.mk c nx (R.map (MK M)))) t (by omega) t.length 0 5000 false (by omega) (by omega)
  rw [Int.natCast_zero, List.drop_zero, Bool.false_or] at this
  unfold F98
  rw [this]
  unfold F98_c0
  cases a : anyb t with
  | false =>
    have e : add R t = (R, -1) := by unfold add; rw [if_neg (by rw [a]; decide)]
    rw [e, if_pos (by decide)]; exact ⟨m, rfl, hm⟩
  | true =>
    rw [if_neg (by decide), skey_eq t (by omega), Option.bind_some]
    have hg := hm t ht
    show ∃ m', (if ((mget m (skey t)).isSome) = true then _ else _) = _ ∧ _
    cases e : ix R t with
    | some i =>
      have ea : add R t = (R, (i : Int)) := by unfold add; rw [if_pos a, e]
      rw [e] at hg
      rw [ea]
      refine ⟨m, ?_, hm⟩
      show (if ((mget m (skey t)).isSome) = true then some ((mget m (skey t)).getD 0, _) else _) = _
      rw [hg]; rfl
    | none =>
      have ea : add R t = (R ++ [t], (R.length : Int)) := by unfold add; rw [if_pos a, e]
      rw [e] at hg
      have hl : (R ++ [t]).length = R.length + 1 := by simp
      refine ⟨mput m (skey t) (R.length : Int), ?_, ?_⟩
      · rw [ea, if_neg (by rw [hg]; decide), if_pos (by show (R ++ [t]).length * 24 ≤ _; omega), smark_eq _ t (by omega), Option.bind_some, if_pos (by show (R.map (MK M) ++ [MK M t]).length * 8 ≤ _; simp; omega), Option.bind_some]
        show some (w64 (((R ++ [t]).length : Int) - 1), _) = _
        rw [hl, w6 (by omega) (by omega), List.map_append]
        rw [show (((R.length + 1 : Nat) : Int) - 1) = (R.length : Int) by omega]; rfl
      · intro u hu
        rw [ea, mget_mput, ix_app]
        by_cases k : t = u
        · subst k
          rw [if_pos rfl, e]
          show _ = Option.map Int.ofNat (if t = t then some R.length else none)
          rw [if_pos rfl]
          rfl
        · rw [if_neg (fun h => k (skey_inj (by omega) (by omega) h)), hm u hu]
          cases ix R u with
          | some j => rfl
          | none =>
            show _ = Option.map Int.ofNat (if t = u then some R.length else none)
            rw [if_neg k]
end Go.Avl.T7
/- subset: rows, and how they are numbered, in both. -/
namespace Go.Avl.T7
open Go Go.RowKit Go.Proofs Go.Avl
set_option linter.all false
set_option maxRecDepth 10000

def rowf (n : S121) (s : List Bool) : List Nat → List (List Bool) → List Int → List (List Bool) × List Int
  | [], R, a => (R, a)
  | b :: bs, R, a => rowf n s bs (add R (CL n (MV n s b))).1 (a ++ [(add R (CL n (MV n s b))).2])
theorem add_len (R : List (List Bool)) (t : List Bool) : R.length ≤ (add R t).1.length ∧ (add R t).1.length ≤ R.length + 1 := by
  unfold add
  split
  · split <;> simp
  · simp
theorem add_get {R : List (List Bool)} {t : List Bool} {i : Nat} {s : List Bool} (h : R[i]? = some s) : (add R t).1[i]? = some s := by
  have hi := (List.getElem?_eq_some_iff.1 h).1
  unfold add
  split
  · split
    · exact h
    · show (R ++ [t])[i]? = some s
      rw [List.getElem?_append_left hi]; exact h
  · exact h
theorem add_all {N : Nat} {R : List (List Bool)} {t : List Bool} (h : ∀ r ∈ R, r.length = N) (ht : t.length = N) : ∀ r ∈ (add R t).1, r.length = N := by
  unfold add
  split
  · split
    · exact h
    · intro r hr
      rcases List.mem_append.1 hr with hr | hr
      · exact h r hr
      · rw [List.mem_singleton.1 hr]; exact ht
  · exact h
theorem st_len (n : S121) (s : List Bool) (b : Nat) : (CL n (MV n s b)).length = NN n := by rw [CL_len, MV_len]
theorem rowf_len (n : S121) (s : List Bool) : ∀ (bs : List Nat) (R : List (List Bool)) (a : List Int), R.length ≤ (rowf n s bs R a).1.length ∧ (rowf n s bs R a).1.length ≤ R.length + bs.length
  | [], R, a => ⟨Nat.le_refl _, Nat.le_refl _⟩
  | b :: bs, R, a => by
    have h := add_len R (CL n (MV n s b))
    have ih := rowf_len n s bs (add R (CL n (MV n s b))).1 (a ++ [(add R (CL n (MV n s b))).2])
    rw [rowf, List.length_cons]; omega
theorem rowf_all (n : S121) (s : List Bool) : ∀ (bs : List Nat) (R : List (List Bool)) (a : List Int), (∀ r ∈ R, r.length = NN n) → ∀ r ∈ (rowf n s bs R a).1, r.length = NN n
  | [], R, a, h => h
  | b :: bs, R, a, h => rowf_all n s bs _ _ (add_all h (st_len n s b))
theorem lget_some {α : Type} [Inhabited α] {l : List α} {i : Nat} {x : α} (h : l[i]? = some x) : lget l (i : Int) = x ∧ i < l.length := by
  obtain ⟨h1, h2⟩ := List.getElem?_eq_some_iff.1 h
  exact ⟨by rw [lget_lt _ i h1]; exact h2, h1⟩
/-- What the one turns a row into. -/
theorem sub_l3 {n : S121} (h : Rt n) {kk : Nat → ByteArray} {M : List Int} {c : Vector Int 256} (rec57 : Int → List S152 → Int → Int → List Int → List Int → List (ByteArray × Int) → List (List Bool) → Vector Int 256 → List (List Int) → List Int → Int → Option (S55 × Int)) (i : Nat) (s : List Bool) (nx : List (List Int)) (hnx : nx.length ≤ 100000) (hi : i ≤ 100000) (bs : List Nat) (hbs : ∀ b ∈ bs, b < 256) (hbl : bs.length ≤ 256) :
    ∀ (m j fuel : Nat) (R : List (List Bool)) (a : List Int) (sm : List (ByteArray × Int)), j + m = bs.length → m < fuel → a.length ≤ j → SeenOK (NN n) sm R → R[i]? = some s → R.length + m ≤ 100000 → s.length = NN n →
    ∃ sm', F76_l3 5000 rec57 n (bs.map Int.ofNat) (i : Int) fuel n.f0 n.f1 n.f2 n.f3 M (bs.map Int.ofNat) sm R c nx (R.map (MK M)) a (j : Int) = rec57 n.f0 n.f1 n.f2 n.f3 M (bs.map Int.ofNat) sm' (rowf n s (bs.drop j) R a).1 c (nx ++ [(rowf n s (bs.drop j) R a).2]) ((rowf n s (bs.drop j) R a).1.map (MK M)) ((i + 1 : Nat) : Int) ∧ SeenOK (NN n) sm' (rowf n s (bs.drop j) R a).1
  | 0, j, f + 1, R, a, sm, hj, _, ha, hs, hg, hR, hl => by
    rw [F76_l3.eq_2, List.length_map, if_neg (by omega), List.drop_of_length_le (by omega), rowf]
    unfold F76_c2 F76_c1
    rw [if_pos (by simp; omega), w6 (by omega) (by omega)]
    exact ⟨sm, rfl, hs⟩
  | m + 1, j, f + 1, R, a, sm, hj, hf, ha, hs, hg, hR, hl => by
    have hj' : j < bs.length := by omega
    obtain ⟨g1, g2⟩ := lget_some hg
    have hb := hbs _ (List.getElem_mem hj')
    have eb : lget (bs.map Int.ofNat) (j : Int) = (bs[j] : Int) := by rw [lget_lt _ j (by simpa using hj'), List.getElem_map]; rfl
    have hN : NN n ≤ 1000 := by have := h.nn; have := h.n1; omega
    have hlen := add_len R (CL n (MV n s bs[j]))
    obtain ⟨sm', t1, t2⟩ := state_eq (N := NN n) hN (n := n) (M := M) (rp := bs.map Int.ofNat) (c := c) (nx := nx) (st_len n s bs[j]) hs (by omega)
    obtain ⟨sm2, u1, u2⟩ := sub_l3 h (kk := kk) (M := M) (c := c) rec57 i s nx hnx hi bs hbs hbl m (j + 1) f (add R (CL n (MV n s bs[j]))).1 (a ++ [(add R (CL n (MV n s bs[j]))).2]) sm' (by omega) (by omega) (by simp; omega) t2 (add_get hg) (by omega) hl
    refine ⟨sm2, ?_, ?_⟩
    · rw [F76_l3.eq_2, List.length_map, if_pos (by omega), if_pos ⟨by omega, by omega⟩, if_pos ⟨by omega, by omega⟩, g1, eb, move_eq h s (by omega) (by omega), Option.bind_some, Int.toNat_natCast, close_eq h, Option.bind_some, ini_self (MV_len _ _ _)]
      have : (S121.mk n.f0 n.f1 n.f2 n.f3) = n := rfl
      rw [this, t1, Option.bind_some, if_pos (by simp; omega), w6 (by omega) (by omega), List.drop_eq_getElem_cons hj', rowf]
      exact_mod_cast u1
    · rw [List.drop_eq_getElem_cons hj', rowf]; exact u2
def mainF (n : S121) (bs : List Nat) (B : Nat) : Nat → Nat → List (List Bool) → List (List Int) → Option (List (List Bool) × List (List Int))
  | 0, _, _, _ => none
  | f + 1, i, R, N => if i < R.length then if B < R.length then none else mainF n bs B f (i + 1) (rowf n (R.getD i []) bs R []).1 (N ++ [(rowf n (R.getD i []) bs R []).2]) else some (R, N)
theorem sub_l4 {n : S121} (h : Rt n) {kk : Nat → ByteArray} {M : List Int} {c : Vector Int 256} (bs : List Nat) (hbs : ∀ b ∈ bs, b < 256) (hbl : bs.length ≤ 256) :
    ∀ (f i : Nat) (R : List (List Bool)) (N : List (List Int)) (sm : List (ByteArray × Int)), 2003 ≤ f + i → i ≤ 2000 → SeenOK (NN n) sm R → (∀ r ∈ R, r.length = NN n) → R.length ≤ 3000 → N.length = i →
    F76_l4 5000 n f n.f0 n.f1 n.f2 n.f3 M (bs.map Int.ofNat) sm R c N (R.map (MK M)) (i : Int) = match mainF n bs 2000 f i R N with | some (R', N') => some (S55.mk c N' (R'.map (MK M)), 0) | none => some (S55.mk (Vector.replicate 256 (0 : Int)) [] [], 6)
  | 0, i, _, _, _, h1, h2, _, _, _, _ => by omega
  | f + 1, i, R, N, sm, h1, h2, hs, hr, hR, hN => by
    rw [F76_l4.eq_2, mainF]
    by_cases a : i < R.length
    · rw [if_pos (by omega), if_pos a]
      by_cases b : 2000 < R.length
      · rw [if_pos (by omega), if_pos b]
      · rw [if_neg (by omega), if_neg b]
        have hg : R[i]? = some (R.getD i []) := by rw [List.getD, List.getElem?_eq_getElem a]; rfl
        have hl : (R.getD i []).length = NN n := hr _ (List.mem_of_getElem? hg)
        obtain ⟨sm', u1, u2⟩ := sub_l3 h (kk := kk) (M := M) (c := c) (F76_l4 5000 n f) i (R.getD i []) N (by omega) (by omega) bs hbs hbl bs.length 0 5000 R [] sm (by omega) (by omega) (by simp) hs hg (by omega) hl
        rw [Int.natCast_zero, List.drop_zero] at u1
        rw [List.drop_zero] at u2
        have hrl := rowf_len n (R.getD i []) bs R []
        rw [u1]
        exact sub_l4 h (kk := kk) bs hbs hbl f (i + 1) _ _ sm' (by omega) (by omega) u2 (rowf_all n _ bs R [] hr) (by omega) (by simp; omega)
    · rw [if_neg (by omega), if_neg a]; rfl
theorem sreps_l {n : S121} {kk : Nat → ByteArray} {v : Vector Int 256} (hv : ∀ c : Nat, c < 256 → vget v (c : Int) = (ck kk c : Int)) (p1 : List Int) : ∀ (m b fuel : Nat) (a : List Int), b + m = 256 → m < fuel → a.length = nc kk b → F76_l7 5000 n p1 v fuel a (b : Int) = F76_c5 5000 n p1 v (a ++ (rps kk m b).map Int.ofNat)
  | 0, b, f + 1, a, hb, _, _ => by
    rw [F76_l7.eq_2, if_neg (by omega), rps, List.map_nil, List.append_nil]
  | m + 1, b, f + 1, a, hb, hf, ha => by
    have hcl := ck_le kk b
    rw [F76_l7.eq_2, if_pos (by omega), if_pos ⟨by omega, by omega⟩, hv b (by omega), w6 (x := ((ck kk b : Nat) : Int)) (by omega) (by omega), rps]
    unfold F76_c6
    rw [w6 (x := (b : Int) + 1) (by omega) (by omega), w8_id (by omega) (by omega)]
    have hsp := rc_spec kk b
    by_cases e : rc kk b = b
    · have e2 : ck kk b = nc kk b := by unfold ck; rw [e]
      have hnl := nc_le kk b
      have ih := sreps_l (n := n) hv p1 m (b + 1) f (a ++ [(b : Int)]) (by omega) (by omega) (by rw [nc, if_pos e]; simp; omega)
      rw [List.append_assoc] at ih
      rw [if_pos (by omega), if_pos (by simp; omega), if_pos e]; exact_mod_cast ih
    · have hr : rc kk b + 1 ≤ b := by omega
      have hm := nc_mono kk hr
      have e3 : nc kk (rc kk b + 1) = nc kk (rc kk b) + 1 := by rw [nc, if_pos (rc_rc kk b)]
      have : ck kk b < nc kk b := by unfold ck; omega
      rw [if_neg (by omega), if_neg e]
      exact_mod_cast sreps_l (n := n) hv p1 m (b + 1) f a (by omega) (by omega) (by rw [nc, if_neg e]; omega)
/-- The set of the first state. -/
def F0 (n : S121) : List Bool := CL n (lset (List.replicate (NN n) false) n.f2 true)
theorem F0_len (n : S121) : (F0 n).length = NN n := by unfold F0; rw [CL_len, lset_len, List.length_replicate]
theorem F0_any {n : S121} (h : Rt n) : anyb (F0 n) = true := by
  have hf := h.first
  have hn := h.nn
  have hx : (lset (List.replicate (NN n) false) n.f2 true).length = NN n := by rw [lset_len, List.length_replicate]
  have h1 : lget (F0 n) n.f2 = true := by
    refine (CL_iff h hx hf.1).2 ⟨n.f2, hf.1, ?_, .refl _⟩
    rw [lget_lset _ _ _ hf.1 (by rw [List.length_replicate]; omega) hf.1]; simp
  have h2 : n.f2.toNat < (F0 n).length := by rw [F0_len]; omega
  have h3 := lget_lt (F0 n) n.f2.toNat h2
  rw [show ((n.f2.toNat : Nat) : Int) = n.f2 by omega, h1] at h3
  unfold anyb
  rw [List.any_eq_true]
  exact ⟨_, List.getElem_mem h2, h3.symm⟩
theorem sof_eq {n : S121} (h : Rt n) {kk : Nat → ByteArray} (hk : CK n kk) (M : List Int) : ∃ v, (∀ c : Nat, c < 256 → vget v (c : Int) = (ck kk c : Int)) ∧
    F76 5000 n M = match mainF n (RP kk) 2000 5000 0 [F0 n] [] with | some (R', N') => some (S55.mk v N' (R'.map (MK M)), 0) | none => some (S55.mk (Vector.replicate 256 (0 : Int)) [] [], 6) := by
  obtain ⟨v, v1, v2⟩ := hk.classes
  refine ⟨v, v2, ?_⟩
  have hf := h.first
  have hn := h.nn
  have hN : NN n ≤ 1000 := by have := h.n1; omega
  unfold F76
  rw [right_eq n h.n2, Option.bind_some, h.rt, if_neg (by decide), sets_eq n h.n2, Option.bind_some, v1, Option.bind_some]
  have := sreps_l (n := n) v2 M 256 0 5000 [] (by omega) (by omega) rfl
  rw [Int.natCast_zero, List.nil_append] at this
  rw [this]
  unfold F76_c5
  have e0 : n.f0.toNat = NN n := rfl
  have hx : (lset (List.replicate (NN n) false) n.f2 true).length = NN n := by rw [lset_len, List.length_replicate]
  rw [if_pos ⟨by omega, by omega, by omega⟩, e0, if_pos ⟨by omega, by rw [List.length_replicate]; omega⟩, close_eq h, Option.bind_some, ini_self hx]
  have seen0 : SeenOK (NN n) [] [] := fun t ht => rfl
  obtain ⟨sm', t1, t2⟩ := state_eq (N := NN n) hN (n := n) (M := M) (rp := (rps kk 256 0).map Int.ofNat) (c := v) (nx := []) (F0_len n) seen0 (by simp)
  have ea : add [] (F0 n) = ([F0 n], 0) := by
    unfold add
    rw [if_pos (F0_any h)]; rfl
  rw [ea] at t1 t2
  show (F98 5000 (S156.mk n M ((rps kk 256 0).map Int.ofNat) [] [] (S55.mk v [] (([] : List (List Bool)).map (MK M)))) (F0 n)).bind _ = _
  rw [t1, Option.bind_some]
  exact sub_l4 h (kk := kk) (RP kk) (fun b hb => RP_lt kk hb) (RP_len kk) 5000 0 [F0 n] [] sm' (by omega) (by omega) t2 (fun r hr => by rw [List.mem_singleton.1 hr]; exact F0_len n) (by simp) rfl
end Go.Avl.T7
/- subset: what the document answers. -/
namespace Go.Avl.T7
open Go Go.RowKit Go.Proofs Go.Avl
set_option linter.all false
set_option maxRecDepth 10000

end Go.Avl.T7
