/- Parts: T5W, T5S1, T5C1, T5C2, T5K1, T5N1, T5N2, T5M1, T5D0, T5D1, T5D2, T5D3, T5D4. -/
import Derived.Test.YtoaomnfenofglaaAF1
import Derived.Test.YtoaomnfenofglaaAv3
import Derived.Test.YtoaomnfenofglaaAF6
import Derived.Laws.Bits64b
import Derived.Test.YtoaomnfenofglaaAF3
import Derived.Test.YtoaomnfenofglaaAF4
import Derived.Test.YtoaomnfenofglaaAF5
import Derived.Test.YtoaomnfenofglaaAF2
/- Opening of the arguments; printed by avlaw.py. -/
namespace Go.Avl.T5
open Go Go.RowKit Go.Proofs Go.Avl
set_option linter.unusedVariables false
set_option maxRecDepth 100000
abbrev e28 (l : List (List Int)) : AV := .fz 1 (l.map e25)
abbrev wf3 : Int → Prop := (fun n : Int => (Lit.int .i64 n).wf = true)
theorem op3 : Opens Try.prog 3 eI64 wf3 := opens_int Try.underlying3
abbrev wf25 : (List Int) → Prop := (fun l : List Int => l.length ≤ 9223372036854775807 ∧ ∀ a ∈ l, wf3 a)
theorem op25 : Opens Try.prog 25 e25 wf25 := opens_slice Try.underlying25 sz3 op3
abbrev wf9 : ByteArray → Prop := (fun s : ByteArray => s.size ≤ 9223372036854775807)
theorem op9 : Opens Try.prog 9 eStr wf9 := opens_string Try.underlying9
abbrev wf5 : Int → Prop := (fun n : Int => (Lit.int .u8 n).wf = true)
theorem op5 : Opens Try.prog 5 eU8 wf5 := opens_int Try.underlying5
abbrev wf27 : (Vector Int 256) → Prop := (fun l : Vector Int 256 => ∀ a ∈ l.toList, wf5 a)
theorem op27 : Opens Try.prog 27 e27 wf27 := opens_array Try.underlying27 sz5 sz27 op5
abbrev wf28 : (List (List Int)) → Prop := (fun l : List (List Int) => l.length ≤ 9223372036854775807 ∧ ∀ a ∈ l, wf25 a)
theorem op28 : Opens Try.prog 28 e28 wf28 := opens_slice Try.underlying28 sz25 op25
abbrev wf30 : S30 → Prop := (fun x : S30 => wf27 x.f0 ∧ wf28 x.f1 ∧ wf25 x.f2)
theorem op30 : Opens Try.prog 30 e30 wf30 := (opens_struct Try.underlying30 sz30 (opensF_cons rfl sz27 (by decide) op27 (opensF_cons rfl sz28 (by decide) op28 (opensF_cons rfl sz25 (by decide) op25 (opensF_nil _))))).map (fun p => S30.mk p.1 p.2.1 p.2.2.1) (fun _ => rfl) (fun _ h => ⟨h.1, h.2.1, h.2.2.1⟩)
end Go.Avl.T5
/- Ported: texts between quotes. -/
namespace Go.Avl.T5
open Go Go.RowKit Go.Proofs Go.Avl
set_option linter.all false
set_option maxRecDepth 10000

def U (a : Vector Int 4) : Prop := ∀ j : Nat, j < 4 → 0 ≤ vget a (j : Int) ∧ vget a (j : Int) < 18446744073709551616
def wd (a : Vector Int 4) (j : Nat) : Nat := (vget a (j : Int)).toNat
/-- Is a byte in a set? -/
def tb (a : Vector Int 4) (b : Nat) : Bool := (wd a (b / 64)).testBit (b % 64)
end Go.Avl.T5
/- Classes of bytes: a byte's key tells which sets have it. -/
namespace Go.Avl.T5
open Go Go.RowKit Go.Proofs Go.Avl
set_option linter.all false
set_option maxRecDepth 10000

/-- Which of some sets have a byte. -/
def sg (L : List (Vector Int 4)) (b x : Nat) : Bool := decide (x < L.length) && tb (L.getD x default) b
end Go.Avl.T5
/- Classes of bytes: numbered by their least bytes. -/
namespace Go.Avl.T5
open Go Go.RowKit Go.Proofs Go.Avl
set_option linter.all false
set_option maxRecDepth 10000

/-! The least of one class. -/
def rcf (e : Nat → Bool) (b : Nat) : Nat → Nat → Nat
  | 0, _ => b
  | f + 1, i => if e i = true then i else rcf e b f (i + 1)
theorem rcf_spec (e : Nat → Bool) (b : Nat) (hb : e b = true) : ∀ (f i : Nat), i + f = b → rcf e b f i ≤ b ∧ i ≤ rcf e b f i ∧ e (rcf e b f i) = true ∧ ∀ c, i ≤ c → c < rcf e b f i → e c = false
  | 0, i, h => by rw [rcf]; exact ⟨by omega, by omega, hb, fun c h1 h2 => by omega⟩
  | f + 1, i, h => by
    rw [rcf]
    by_cases q : e i = true
    · rw [if_pos q]; exact ⟨by omega, by omega, q, fun c h1 h2 => by omega⟩
    · rw [if_neg q]
      obtain ⟨h1, h2, h3, h4⟩ := rcf_spec e b hb f (i + 1) (by omega)
      refine ⟨h1, by omega, h3, fun c k1 k2 => ?_⟩
      by_cases r : c = i
      · subst r; simpa using q
      · exact h4 c (by omega) k2
section
variable (kk : Nat → ByteArray)
def rc (b : Nat) : Nat := rcf (fun c => decide (kk c = kk b)) b b 0
theorem rc_spec (b : Nat) : rc kk b ≤ b ∧ kk (rc kk b) = kk b ∧ ∀ c, c < rc kk b → kk c ≠ kk b := by
  obtain ⟨h1, h2, h3, h4⟩ := rcf_spec (fun c => decide (kk c = kk b)) b (by simp) b 0 (by omega)
  exact ⟨h1, of_decide_eq_true h3, fun c hc => of_decide_eq_false (h4 c (by omega) hc)⟩
theorem rc_uniq {b r : Nat} (h1 : kk r = kk b) (h2 : ∀ c, c < r → kk c ≠ kk b) : rc kk b = r := by
  obtain ⟨k1, k2, k3⟩ := rc_spec kk b
  rcases Nat.lt_trichotomy (rc kk b) r with h | h | h
  · exact absurd k2 (h2 _ h)
  · exact h
  · exact absurd h1 (k3 _ h)
theorem rc_same {b c : Nat} (h : kk c = kk b) : rc kk c = rc kk b := by
  obtain ⟨k1, k2, k3⟩ := rc_spec kk b
  exact rc_uniq kk (by rw [k2, h]) (fun d hd => by rw [h]; exact k3 d hd)
theorem rc_rc (b : Nat) : rc kk (rc kk b) = rc kk b := rc_same kk (rc_spec kk b).2.1
/-- How many classes begin below a byte. -/
def nc : Nat → Nat
  | 0 => 0
  | b + 1 => nc b + if rc kk b = b then 1 else 0
theorem nc_le (b : Nat) : nc kk b ≤ b := by
  induction b with
  | zero => exact Nat.le_refl _
  | succ b ih => rw [nc]; split <;> omega
theorem nc_mono {b c : Nat} (h : b ≤ c) : nc kk b ≤ nc kk c := by
  induction h with
  | refl => exact Nat.le_refl _
  | step _ ih => rw [nc]; omega
def ck (b : Nat) : Nat := nc kk (rc kk b)
theorem ck_same {b c : Nat} (h : kk c = kk b) : ck kk c = ck kk b := by unfold ck; rw [rc_same kk h]
theorem ck_le (b : Nat) : ck kk b ≤ b := Nat.le_trans (nc_le kk _) (rc_spec kk b).1
theorem vget_vset256 (v : Vector Int 256) (i j : Nat) (x : Int) (hi : i < 256) (hj : j < 256) : vget (vset v (i : Int) x) (j : Int) = if j = i then x else vget v (j : Int) := by
  unfold vget vset
  rw [Int.toNat_natCast, Int.toNat_natCast, Vector.toList_setIfInBounds, List.getD, List.getD, List.getElem?_set]
  by_cases e : i = j
  · subst e; rw [if_pos rfl, if_pos rfl, if_pos (by simpa using hi)]; rfl
  · rw [if_neg e, if_neg (fun h => e h.symm)]
/-- What the map holds. -/
def MapOK (b : Nat) (m : List (ByteArray × Int)) : Prop :=
  m.length = nc kk b ∧ (∀ c, c < b → mget m (kk c) = some (ck kk c : Int)) ∧ ∀ s, (∀ c, c < b → kk c ≠ s) → mget m s = none
theorem bclasses_l {L : List (Vector Int 4)} (hk : ∀ b : Nat, b < 256 → byteset_key 5000 L (b : Int) = some (kk b)) : ∀ (m b fuel : Nat) (v : Vector Int 256) (mp : List (ByteArray × Int)), b + m = 256 → m < fuel → MapOK kk b mp → (∀ c, c < b → vget v (c : Int) = (ck kk c : Int)) →
    ∃ v', byteset_Classes_l2 5000 L fuel v mp b = some v' ∧ ∀ c : Nat, c < 256 → vget v' (c : Int) = (ck kk c : Int)
  | 0, b, f + 1, v, mp, h, _, _, hv => by
    rw [byteset_Classes_l2.eq_2, if_neg (by omega), byteset_Classes_c0]
    exact ⟨v, rfl, fun c hc => hv c (by omega)⟩
  | m + 1, b, f + 1, v, mp, h, hf, hm, hv => by
    have hb : b < 256 := by omega
    have hcl := ck_le kk b
    have fin : ∀ mp', MapOK kk (b + 1) mp' → ∃ v', byteset_Classes_c1 5000 (byteset_Classes_l2 5000 L f) v (b : Int) mp' (ck kk b : Int) = some v' ∧ ∀ c : Nat, c < 256 → vget v' (c : Int) = (ck kk c : Int) := by
      intro mp' hm'
      unfold byteset_Classes_c1
      rw [if_pos ⟨by omega, by omega⟩, w8_id (by omega) (by omega), w64_id (by omega) (by omega)]
      have := bclasses_l hk m (b + 1) f (vset v (b : Int) (ck kk b : Int)) mp' (by omega) (by omega) hm' (fun c hc => by
        rw [vget_vset256 _ _ _ _ hb (by omega)]
        by_cases q : c = b
        · subst q; rw [if_pos rfl]
        · rw [if_neg q]; exact hv c (by omega))
      exact_mod_cast this
    rw [byteset_Classes_l2.eq_2, if_pos (by omega), w8_id (by omega) (by omega), hk b hb, Option.bind_some]
    obtain ⟨r1, r2, r3⟩ := rc_spec kk b
    obtain ⟨m1, m2, m3⟩ := hm
    by_cases q : rc kk b = b
    · have hn : mget mp (kk b) = none := m3 _ (fun c hc => r3 c (by omega))
      have hc : ck kk b = nc kk b := by unfold ck; rw [q]
      rw [hn, if_pos (by rfl), m1, ← hc]
      refine fin _ ⟨?_, fun c hc' => ?_, fun s hs => ?_⟩
      · rw [mput_none hn, List.length_append, m1, nc, if_pos q]; rfl
      · rw [mget_mput]
        by_cases r : c = b
        · subst r; rw [if_pos rfl]
        · rw [if_neg (fun h => r3 c (by omega) h.symm), m2 c (by omega)]
      · rw [mget_mput, if_neg (hs b (by omega)), m3 s (fun c hc => hs c (by omega))]
    · have hg : mget mp (kk b) = some (ck kk b : Int) := by
        rw [← r2, m2 _ (by omega), ck_same kk r2]
      rw [hg, if_neg (by simp)]
      refine fin mp ⟨by rw [m1, nc, if_neg q]; rfl, fun c hc' => ?_, fun s hs => m3 s (fun c hc => hs c (by omega))⟩
      by_cases r : c = b
      · subst r; exact hg
      · exact m2 c (by omega)
open Classical in
open Classical in
theorem bcount_l (v : Vector Int 256) (hv : ∀ c : Nat, c < 256 → vget v (c : Int) = (ck kk c : Int)) : ∀ (m b fuel : Nat), b + m = 256 → m < fuel → byteset_Count_l1 5000 v fuel (nc kk b : Int) (b : Int) = some (nc kk 256 : Int)
  | 0, b, f + 1, h, _ => by
    rw [byteset_Count_l1.eq_2, if_neg (by omega), byteset_Count_c0, show b = 256 by omega]
  | m + 1, b, f + 1, h, hf => by
    have hb : b < 256 := by omega
    have hcl := ck_le kk b
    have hnl := nc_le kk b
    rw [byteset_Count_l1.eq_2, if_pos (by omega), if_pos ⟨by omega, by omega⟩, hv b hb, w64_id (n := (ck kk b : Int)) (by omega) (by omega), w64_id (n := (ck kk b : Int) + 1) (by omega) (by omega), w64_id (by omega) (by omega)]
    have e : max (nc kk b : Int) ((ck kk b : Int) + 1) = (nc kk (b + 1) : Int) := by
      obtain ⟨r1, r2, r3⟩ := rc_spec kk b
      by_cases q : rc kk b = b
      · have : ck kk b = nc kk b := by unfold ck; rw [q]
        rw [nc, if_pos q, this]; omega
      · have h1 : nc kk (rc kk b + 1) ≤ nc kk b := nc_mono kk (by omega)
        rw [nc, if_pos (rc_rc kk b)] at h1
        have h2 : ck kk b + 1 ≤ nc kk b := h1
        rw [nc, if_neg q]; omega
    rw [e]
    have := bcount_l v hv m (b + 1) f (by omega) (by omega)
    exact_mod_cast this
end
end Go.Avl.T5
/- Numbers of classes: told apart by keys; refined. -/
namespace Go.Avl.T5
open Go Go.RowKit Go.Proofs Go.Avl
set_option linter.all false
set_option maxRecDepth 10000

theorem nc_rep {kk : Nat → ByteArray} {r : Nat} (h : rc kk r = r) {b : Nat} (hb : r < b) : nc kk r < nc kk b := by
  have h1 : nc kk (r + 1) = nc kk r + 1 := by rw [nc, if_pos h]
  have h2 := nc_mono kk (show r + 1 ≤ b by omega)
  omega
theorem ck_iff {kk : Nat → ByteArray} {i j : Nat} : ck kk i = ck kk j ↔ kk i = kk j := by
  constructor
  · intro h
    unfold ck at h
    have hi := rc_rc kk i
    have hj := rc_rc kk j
    have e : rc kk i = rc kk j := by
      rcases Nat.lt_trichotomy (rc kk i) (rc kk j) with k | k | k
      · have := nc_rep hi k; omega
      · exact k
      · have := nc_rep hj k; omega
    rw [← (rc_spec kk i).2.1, e, (rc_spec kk j).2.1]
  · intro h; exact ck_same kk h
theorem ck_lt {kk : Nat → ByteArray} {i N : Nat} (h : i < N) : ck kk i < nc kk N := by
  unfold ck
  exact nc_rep (rc_rc kk i) (by have := (rc_spec kk i).1; omega)
/-- Finer keys: as many classes at least; if as many, the same ones. -/
theorem rep_of {kk kk' : Nat → ByteArray} (h : ∀ i j, kk' i = kk' j → kk i = kk j) {r : Nat} (hr : rc kk r = r) : rc kk' r = r := by
  refine rc_uniq kk' rfl fun c hc e => ?_
  have := (rc_spec kk r).2.2 c (by rw [hr]; exact hc)
  exact this (h c r e)
theorem nc_fine {kk kk' : Nat → ByteArray} (h : ∀ i j, kk' i = kk' j → kk i = kk j) : ∀ b, nc kk b ≤ nc kk' b
  | 0 => Nat.le_refl _
  | b + 1 => by
    have ih := nc_fine h b
    rw [nc, nc]
    by_cases q : rc kk b = b
    · rw [if_pos q, if_pos (rep_of h q)]; omega
    · rw [if_neg q]; omega
theorem nc_same {kk kk' : Nat → ByteArray} (h : ∀ i j, kk' i = kk' j → kk i = kk j) : ∀ (m b : Nat), nc kk (b + m) = nc kk' (b + m) → nc kk b = nc kk' b
  | 0, _, e => e
  | m + 1, b, e => by
    have h1 : nc kk (b + m) = nc kk' (b + m) := by
      have h2 := nc_fine h (b + m)
      have e' : nc kk (b + m + 1) = nc kk' (b + m + 1) := e
      rw [nc, nc] at e'
      by_cases q : rc kk (b + m) = b + m
      · rw [if_pos q, if_pos (rep_of h q)] at e'; omega
      · rw [if_neg q] at e'
        split at e' <;> omega
    exact nc_same h m b h1
theorem rep_back {kk kk' : Nat → ByteArray} (h : ∀ i j, kk' i = kk' j → kk i = kk j) {N : Nat} (e : nc kk N = nc kk' N) {r : Nat} (hN : r < N) (hr : rc kk' r = r) : rc kk r = r := by
  have e1 := nc_same h (N - r) r (by rw [show r + (N - r) = N by omega]; exact e)
  have e2 := nc_same h (N - (r + 1)) (r + 1) (by rw [show r + 1 + (N - (r + 1)) = N by omega]; exact e)
  rw [nc, nc, if_pos hr] at e2
  by_cases q : rc kk r = r
  · exact q
  · rw [if_neg q] at e2; omega
theorem fine_same {kk kk' : Nat → ByteArray} (h : ∀ i j, kk' i = kk' j → kk i = kk j) {N : Nat} (e : nc kk N = nc kk' N) {i j : Nat} (hi : i < N) (hj : j < N) (k : kk i = kk j) : kk' i = kk' j := by
  have si := rc_spec kk' i
  have sj := rc_spec kk' j
  have ri := rep_back h e (show rc kk' i < N by omega) (rc_rc kk' i)
  have rj := rep_back h e (show rc kk' j < N by omega) (rc_rc kk' j)
  have k1 : kk (rc kk' i) = kk (rc kk' j) := by rw [h _ _ si.2.1, h _ _ sj.2.1, k]
  have := rc_same kk k1
  rw [ri, rj] at this
  rw [← si.2.1, this, sj.2.1]
end Go.Avl.T5
/- Machines that may be in several states: what both answer, as plain lists. -/
namespace Go.Avl.T5
open Go Go.RowKit Go.Proofs Go.Avl
set_option linter.all false
set_option maxRecDepth 10000

theorem lget_lt {α : Type} [Inhabited α] (l : List α) (i : Nat) (h : i < l.length) : lget l (i : Int) = l[i] := by simp [lget, List.getD, List.getElem?_eq_getElem h]
theorem lset_len {α : Type} (l : List α) (i : Int) (x : α) : (lset l i x).length = l.length := by simp [lset]
/-- A machine whose states are all there, not too large. -/
structure Rt (n : S24) : Prop where
  first : 0 ≤ n.f2 ∧ n.f2 < n.f0
  last : 0 ≤ n.f3 ∧ n.f3 < n.f0
  ed : ∀ e ∈ n.f1, 0 ≤ e.f0 ∧ e.f0 < n.f0 ∧ 0 ≤ e.f1 ∧ e.f1 < n.f0
  n1 : n.f0 ≤ 1000
  n2 : n.f1.length ≤ 1000
  u : ∀ e ∈ n.f1, U e.f2
/-- How many states. -/
def cnt (x : List Bool) : Nat := x.count true
theorem cnt_le (x : List Bool) : cnt x ≤ x.length := List.count_le_length
theorem cnt_set : ∀ (x : List Bool) (i : Nat), i < x.length → x[i]? = some false → cnt (x.set i true) = cnt x + 1
  | b :: x, 0, _, h => by simp at h; subst h; simp [cnt]
  | b :: x, i + 1, hi, h => by
    have := cnt_set x i (by simpa using hi) (by simpa using h)
    simp only [cnt, List.set_cons_succ, List.count_cons] at this ⊢
    omega
end Go.Avl.T5
/- Machines that may be in several states: which states they reach. -/
namespace Go.Avl.T5
open Go Go.RowKit Go.Proofs Go.Avl
set_option linter.all false
set_option maxRecDepth 10000

/-- By free edges. -/
inductive FR (l : List S43) : Int → Int → Prop
  | refl (p : Int) : FR l p p
  | tail {p : Int} {e : S43} : FR l p e.f0 → e ∈ l → e.f3 = true → FR l p e.f1
theorem FR.trans {l : List S43} {p q r : Int} (h : FR l p q) (k : FR l q r) : FR l p r := by
  induction k with
  | refl => exact h
  | tail _ he hf ih => exact .tail ih he hf
/-- The states that a text leads to. -/
inductive Rch (n : S24) (s : ByteArray) : Nat → Int → Prop
  | start : Rch n s 0 n.f2
  | free {i : Nat} {e : S43} : Rch n s i e.f0 → e ∈ n.f1 → e.f3 = true → Rch n s i e.f1
  | byte {i : Nat} {e : S43} : Rch n s i e.f0 → e ∈ n.f1 → e.f3 = false → tb e.f2 (byteAt s i).toNat = true → Rch n s (i + 1) e.f1
theorem Rch.fr {n : S24} {s : ByteArray} {i : Nat} {p q : Int} (h : Rch n s i p) (k : FR n.f1 p q) : Rch n s i q := by
  induction k with
  | refl => exact h
  | tail _ he hf ih => exact .free ih he hf
theorem Rch.in {n : S24} (h : Rt n) {s : ByteArray} {i : Nat} {q : Int} (k : Rch n s i q) : 0 ≤ q ∧ q < n.f0 := by
  cases k with
  | start => exact h.first
  | free _ he _ => exact (h.ed _ he).2.2
  | byte _ he _ _ => exact (h.ed _ he).2.2
end Go.Avl.T5
/- subset: the sets of a machine, classes of bytes, their least bytes. -/
namespace Go.Avl.T5
open Go Go.RowKit Go.Proofs Go.Avl
set_option linter.all false
set_option maxRecDepth 10000

theorem w6 {x : Int} (h0 : -1000000000000 ≤ x) (h1 : x ≤ 1000000000000) : w64 x = x := w64_id (by omega) (by omega)
/-- The sets of the edges that aren't free. -/
def ss : List S43 → List (Vector Int 4)
  | [] => []
  | e :: l => if e.f3 = true then ss l else e.f2 :: ss l
/-- What a machine's classes are. -/
structure CK (n : S24) (kk : Nat → ByteArray) : Prop where
  hk : ∀ b : Nat, b < 256 → byteset_key 5000 (ss n.f1) (b : Int) = some (kk b)
  iff : ∀ b c : Nat, b < 256 → c < 256 → (kk b = kk c ↔ ∀ x, sg (ss n.f1) b x = sg (ss n.f1) c x)
  U : ∀ a ∈ ss n.f1, U a
  len : (ss n.f1).length ≤ 1000
theorem CK.classes {n : S24} {kk : Nat → ByteArray} (h : CK n kk) : ∃ v, byteset_Classes 5000 (ss n.f1) = some v ∧ ∀ c : Nat, c < 256 → vget v (c : Int) = (ck kk c : Int) := by
  obtain ⟨v, v1, v2⟩ := bclasses_l kk h.hk 256 0 5000 (Vector.replicate 256 0) [] (by omega) (by omega) ⟨rfl, fun c hc => by omega, fun s _ => rfl⟩ (fun c hc => by omega)
  exact ⟨v, v1, v2⟩
/-- The least bytes of the classes, rising, from one on. -/
def rps (kk : Nat → ByteArray) : Nat → Nat → List Nat
  | 0, _ => []
  | m + 1, b => if rc kk b = b then b :: rps kk m (b + 1) else rps kk m (b + 1)
theorem rps_len (kk : Nat → ByteArray) : ∀ m b, (rps kk m b).length + nc kk b = nc kk (b + m)
  | 0, b => by simp [rps]
  | m + 1, b => by
    have ih := rps_len kk m (b + 1)
    rw [show b + (m + 1) = b + 1 + m by omega, ← ih, rps, nc]
    split <;> simp <;> omega
theorem rps_get (kk : Nat → ByteArray) : ∀ m b r, b ≤ r → r < b + m → rc kk r = r → (rps kk m b)[nc kk r - nc kk b]? = some r
  | 0, b, r, h1, h2, _ => by omega
  | m + 1, b, r, h1, h2, hr => by
    rw [rps]
    by_cases e : r = b
    · subst e
      rw [if_pos hr, Nat.sub_self]; rfl
    · have ih := rps_get kk m (b + 1) r (by omega) (by omega) hr
      have hm := nc_mono kk (show b + 1 ≤ r by omega)
      split
      · next q =>
        have e2 : nc kk (b + 1) = nc kk b + 1 := by rw [nc, if_pos q]
        rw [e2] at ih hm
        rw [show nc kk r - nc kk b = nc kk r - (nc kk b + 1) + 1 by omega, List.getElem?_cons_succ]; exact ih
      · next q =>
        have e2 : nc kk (b + 1) = nc kk b := by rw [nc, if_neg q]; rfl
        rw [e2] at ih; exact ih
theorem rps_mem (kk : Nat → ByteArray) : ∀ m b r, r ∈ rps kk m b → b ≤ r ∧ r < b + m ∧ rc kk r = r
  | 0, _, _, h => by cases h
  | m + 1, b, r, h => by
    rw [rps] at h
    split at h
    · next q =>
      rcases List.mem_cons.1 h with rfl | h
      · exact ⟨Nat.le_refl _, by omega, q⟩
      · have := rps_mem kk m (b + 1) r h; omega
    · have := rps_mem kk m (b + 1) r h; omega
end Go.Avl.T5
/- Ported: texts between quotes. -/
namespace Go.Avl.T5
open Go Go.RowKit Go.Proofs Go.Avl
set_option linter.all false
set_option maxRecDepth 10000

theorem u8_of {n : Int} (h : (Lit.int .u8 n).wf = true) : 0 ≤ n ∧ n ≤ 255 := by
  simpa [Lit.wf, show IntKind.u8.min = 0 from rfl, show IntKind.u8.max = 255 from rfl] using h
def Bytes (p0 : S30) : Prop := ∀ c : Int, 0 ≤ vget p0.f0 c ∧ vget p0.f0 c ≤ 255
theorem bytes_of {p0 : S30} (h : wf30 p0) : Bytes p0 := by
  intro c
  have h1 := h.1
  by_cases hc : c.toNat < p0.f0.toList.length
  · have : vget p0.f0 c = p0.f0.toList[c.toNat] := by simp [vget, List.getD, List.getElem?_eq_getElem hc]
    rw [this]; exact u8_of (h1 _ (List.getElem_mem hc))
  · have : vget p0.f0 c = 0 := by
      have : p0.f0.toList[c.toNat]? = none := List.getElem?_eq_none (by omega)
      simp only [vget, List.getD, this]; rfl
    rw [this]; omega

def stp (p0 : S30) (s c : Int) : Int := if s < 0 ∨ (p0.f1.length : Int) ≤ s ∨ ((lget p0.f1 s).length : Int) ≤ vget p0.f0 c then -1 else lget (lget p0.f1 s) (vget p0.f0 c)
def mk (p0 : S30) (s : Int) : Int := if s < 0 ∨ (p0.f2.length : Int) ≤ s then -1 else lget p0.f2 s

theorem mark_eq (p0 : S30) (k : Nat) (s : Int) : dfa_Mark k p0 s = some (mk p0 s) := by
  unfold dfa_Mark mk
  by_cases a : s < 0
  · simp [a]
  · by_cases b : (p0.f2.length : Int) ≤ s
    · simp [a, b]
    · simp [a, b]
theorem stp_neg (p0 : S30) (c : Int) : stp p0 (-1) c = -1 := by simp [stp]
theorem mk_neg (p0 : S30) : mk p0 (-1) = -1 := by simp [mk]
theorem small_l {p0 : S30} (k : Nat) (hn : p0.f1.length ≤ 20) : ∀ (m i : Nat), i ≤ p0.f1.length → p0.f1.length - i < m → ∃ b, bosketlaw08_Small_l1 k p0 m i = some b ∧ (b = true → ∀ j, i ≤ j → (h : j < p0.f1.length) → (p0.f1[j]).length ≤ 256)
  | 0, i, _, h => by omega
  | m + 1, i, hi, h => by
    rw [bosketlaw08_Small_l1.eq_2]
    by_cases a : (i : Int) < (p0.f1.length : Int)
    · have hlt : i < p0.f1.length := by omega
      have hrow : lget p0.f1 (i : Int) = p0.f1[i] := by simp [lget, List.getD, List.getElem?_eq_getElem hlt]
      rw [if_pos a, if_pos ⟨by omega, a⟩, hrow]
      by_cases b : (256 : Int) < ((p0.f1[i]).length : Int)
      · rw [if_pos b]; exact ⟨false, rfl, fun h => by cases h⟩
      · rw [if_neg b, w64_id (by omega) (by omega)]
        obtain ⟨c, h1, h2⟩ := small_l k hn m (i + 1) (by omega) (by omega)
        refine ⟨c, by simpa using h1, fun hc j hj hlt' => ?_⟩
        by_cases e : j = i
        · subst e; omega
        · exact h2 hc j (by omega) hlt'
    · rw [if_neg a]; exact ⟨true, rfl, fun _ j hj hlt => by omega⟩
theorem small_some (p0 : S30) {k : Nat} (hk : 5000 ≤ k) : ∃ b, bosketlaw08_Small k p0 = some b ∧ (b = true → p0.f1.length ≤ 20 ∧ p0.f2.length ≤ 30 ∧ ∀ r ∈ p0.f1, r.length ≤ 256) := by
  unfold bosketlaw08_Small
  by_cases a : (20 : Int) < (p0.f1.length : Int)
  · rw [if_pos a, Option.bind_some, if_pos rfl]; exact ⟨_, rfl, fun h => by cases h⟩
  · rw [if_neg a, Option.bind_some]
    by_cases b : (30 : Int) < (p0.f2.length : Int)
    · rw [if_pos (by simpa using b)]; exact ⟨_, rfl, fun h => by cases h⟩
    · rw [if_neg (by simpa using b)]
      obtain ⟨c, h1, h2⟩ := small_l (p0 := p0) k (by omega) k 0 (by omega) (by omega)
      refine ⟨c, by simpa using h1, fun hc => ⟨by omega, by omega, fun r hr => ?_⟩⟩
      obtain ⟨j, hj, rfl⟩ := List.getElem_of_mem hr
      exact h2 hc j (by omega) hj
end Go.Avl.T5
/- Machines in one state: when they may be, what both answer of them. -/
namespace Go.Avl.T5
open Go Go.RowKit Go.Proofs Go.Avl
set_option linter.all false
set_option maxRecDepth 10000

/-- Of so many numbers from one on: all, some. -/
def allB (p : Nat → Bool) : Nat → Nat → Bool
  | 0, _ => true
  | m + 1, i => p i && allB p m (i + 1)
def anyB' (p : Nat → Bool) : Nat → Nat → Bool
  | 0, _ => false
  | m + 1, i => p i || anyB' p m (i + 1)
theorem allB_iff (p : Nat → Bool) : ∀ (m i : Nat), allB p m i = true ↔ ∀ j, i ≤ j → j < i + m → p j = true
  | 0, i => by simp [allB]; omega
  | m + 1, i => by
    rw [allB, Bool.and_eq_true, allB_iff p m (i + 1)]
    constructor
    · rintro ⟨h1, h2⟩ j hj hj'
      by_cases e : j = i
      · rw [e]; exact h1
      · exact h2 j (by omega) (by omega)
    · intro h
      exact ⟨h i (by omega) (by omega), fun j hj hj' => h j (by omega) (by omega)⟩
theorem anyB_iff (p : Nat → Bool) : ∀ (m i : Nat), anyB' p m i = true ↔ ∃ j, i ≤ j ∧ j < i + m ∧ p j = true
  | 0, i => by simp [anyB']; omega
  | m + 1, i => by
    rw [anyB', Bool.or_eq_true, anyB_iff p m (i + 1)]
    constructor
    · rintro (h | ⟨j, h1, h2, h3⟩)
      · exact ⟨i, by omega, by omega, h⟩
      · exact ⟨j, by omega, by omega, h3⟩
    · rintro ⟨j, h1, h2, h3⟩
      by_cases e : j = i
      · exact .inl (e ▸ h3)
      · exact .inr ⟨j, by omega, by omega, h3⟩
/-- How many classes, after so many bytes. -/
def kc (v : Vector Int 256) : Nat → Int
  | 0 => 0
  | b + 1 => max (kc v b) (vget v (b : Int) + 1)
def kcl (v : Vector Int 256) : Int := kc v 256
def VB (v : Vector Int 256) : Prop := ∀ c : Int, 0 ≤ vget v c ∧ vget v c ≤ 255
theorem kc_rng {v : Vector Int 256} (h : VB v) : ∀ b : Nat, 0 ≤ kc v b ∧ kc v b ≤ 256
  | 0 => by simp [kc]
  | b + 1 => by
    have := kc_rng h b
    have := h (b : Int)
    rw [kc]; omega
theorem kc_lt {v : Vector Int 256} : ∀ (m b : Nat), b < m → vget v (b : Int) < kc v m
  | 0, b, h => by omega
  | m + 1, b, h => by
    rw [kc]
    by_cases e : b = m
    · subst e; omega
    · have := kc_lt (v := v) m b (by omega); omega
theorem kcl_lt {v : Vector Int 256} {b : Nat} (h : b < 256) : vget v (b : Int) < kcl v := kc_lt 256 b h
theorem w64s {x : Int} (h0 : -1000000000000 ≤ x) (h1 : x ≤ 1000000000000) : w64 x = x := w64_id (by omega) (by omega)
theorem count_l {v : Vector Int 256} (h : VB v) : ∀ (m b fuel : Nat), b + m = 256 → m < fuel → byteset_Count_l1 5000 v fuel (kc v b) (b : Int) = some (kcl v)
  | 0, b, f + 1, hb, _ => by
    rw [byteset_Count_l1.eq_2, if_neg (by omega), byteset_Count_c0, show b = 256 by omega]; rfl
  | m + 1, b, f + 1, hb, hf => by
    have h0 := h (b : Int)
    have ih := count_l h m (b + 1) f (by omega) (by omega)
    rw [byteset_Count_l1.eq_2, if_pos (by omega), if_pos ⟨by omega, by omega⟩, w64s (x := vget v (b : Int)) (by omega) (by omega), w64s (by omega) (by omega), w64s (by omega) (by omega)]
    rw [kc] at ih
    exact_mod_cast ih
theorem count_eq {v : Vector Int 256} (h : VB v) : byteset_Count 5000 v = some (kcl v) := count_l h 256 0 5000 (by omega) (by omega)
theorem classes_l {d : S30} (h : VB d.f0) : ∀ (m b fuel : Nat), b + m = 256 → m < fuel → bosketref08_classes_l1 5000 d fuel (kc d.f0 b) (b : Int) = some (kcl d.f0)
  | 0, b, f + 1, hb, _ => by
    rw [bosketref08_classes_l1.eq_2, if_neg (by omega), bosketref08_classes_c0, show b = 256 by omega]; rfl
  | m + 1, b, f + 1, hb, hf => by
    have h0 := h (b : Int)
    have ih := classes_l h m (b + 1) f (by omega) (by omega)
    rw [bosketref08_classes_l1.eq_2, if_pos (by omega), if_pos ⟨by omega, by omega⟩, w64s (x := vget d.f0 (b : Int)) (by omega) (by omega), w64s (by omega) (by omega), w64s (by omega) (by omega)]
    rw [kc] at ih
    exact_mod_cast ih
theorem classes_eq {d : S30} (h : VB d.f0) : bosketref08_classes 5000 d = some (kcl d.f0) := classes_l h 256 0 5000 (by omega) (by omega)
/-! Has each class a byte? -/
def hasB (v : Vector Int 256) (c : Nat) : Bool := anyB' (fun b => decide (vget v (b : Int) = (c : Int))) 256 0
def gapB (v : Vector Int 256) : Bool := allB (hasB v) (kcl v).toNat 0
theorem hasB_iff (v : Vector Int 256) (c : Nat) : hasB v c = true ↔ ∃ b : Nat, b < 256 ∧ vget v (b : Int) = c := by
  unfold hasB
  rw [anyB_iff]
  constructor
  · rintro ⟨b, _, h2, h3⟩; exact ⟨b, by omega, of_decide_eq_true h3⟩
  · rintro ⟨b, h1, h2⟩; exact ⟨b, by omega, by omega, decide_eq_true h2⟩
theorem rgap_l3 {d : S30} (h : VB d.f0) (rec4 : Int → Option Bool) (c : Nat) : ∀ (m b fuel : Nat) (acc : Bool), b + m = 256 → m < fuel →
    bosketref08_gapless_l3 5000 rec4 d (c : Int) fuel acc (b : Int) = bosketref08_gapless_c2 5000 rec4 (c : Int) (acc || anyB' (fun b => decide (vget d.f0 (b : Int) = (c : Int))) m b)
  | 0, b, f + 1, acc, hb, _ => by
    rw [bosketref08_gapless_l3.eq_2, if_neg (by omega), anyB', Bool.or_false]
  | m + 1, b, f + 1, acc, hb, hf => by
    have h0 := h (b : Int)
    have ih := fun acc => rgap_l3 h rec4 c m (b + 1) f acc (by omega) (by omega)
    have g : 0 ≤ (b : Int) ∧ (b : Int) < 256 := ⟨by omega, by omega⟩
    rw [bosketref08_gapless_l3.eq_2, if_pos (by omega), w64s (x := vget d.f0 (b : Int)) (by omega) (by omega), if_pos g]
    have key : (if acc = true then some true else some (decide (vget d.f0 (b : Int) = (c : Int)))) = some (acc || decide (vget d.f0 (b : Int) = (c : Int))) := by cases acc <;> simp
    rw [key, Option.bind_some, w64s (by omega) (by omega), show (b : Int) + 1 = ((b + 1 : Nat) : Int) by omega, ih, anyB', Bool.or_assoc]
theorem rgap_l4 {d : S30} (h : VB d.f0) : ∀ (m c fuel : Nat), (c : Int) + m = kcl d.f0 → m < fuel → bosketref08_gapless_l4 5000 d fuel (c : Int) = some (allB (hasB d.f0) m c)
  | 0, c, f + 1, hc, _ => by
    rw [bosketref08_gapless_l4.eq_2, classes_eq h, Option.bind_some, if_neg (by omega), bosketref08_gapless_c0]; rfl
  | m + 1, c, f + 1, hc, hf => by
    have h1 := kc_rng h 256
    have h2 : kcl d.f0 = kc d.f0 256 := rfl
    have ih := rgap_l4 h m (c + 1) f (by omega) (by omega)
    have e := rgap_l3 h (bosketref08_gapless_l4 5000 d f) c 256 0 5000 false (by omega) (by omega)
    rw [Int.natCast_zero] at e
    rw [bosketref08_gapless_l4.eq_2, classes_eq h, Option.bind_some, if_pos (by omega), e, Bool.false_or, bosketref08_gapless_c2, allB]
    show (if (!hasB d.f0 c) = true then some false else _) = _
    cases hasB d.f0 c with
    | false => rfl
    | true =>
      rw [if_neg (by decide), bosketref08_gapless_c1, w64s (by omega) (by omega), Bool.true_and]
      exact_mod_cast ih
theorem rgap_eq {d : S30} (h : VB d.f0) : bosketref08_gapless 5000 d = some (gapB d.f0) := by
  have h1 := kc_rng h 256
  have h2 : kcl d.f0 = kc d.f0 256 := rfl
  exact rgap_l4 h (kcl d.f0).toNat 0 5000 (by omega) (by omega)
theorem gap_l1 (x : List Bool) (hx : x.length ≤ 1000) : ∀ (m i fuel : Nat), i + m = x.length → m < fuel → dfa_gapless_l1 5000 x fuel (i : Int) = some (allB (fun j => lget x (j : Int)) m i)
  | 0, i, f + 1, hi, _ => by
    rw [dfa_gapless_l1.eq_2, if_neg (by omega)]; rfl
  | m + 1, i, f + 1, hi, hf => by
    have ih := gap_l1 x hx m (i + 1) f (by omega) (by omega)
    rw [dfa_gapless_l1.eq_2, if_pos (by omega), if_pos ⟨by omega, by omega⟩, allB, w64s (by omega) (by omega)]
    cases lget x (i : Int) with
    | false => rfl
    | true => rw [if_neg (by decide), Bool.true_and]; exact_mod_cast ih
theorem lget_lsetB (l : List Bool) (i q : Int) (b : Bool) (h0 : 0 ≤ i) (h1 : i < (l.length : Int)) (hq : 0 ≤ q) : lget (lset l i b) q = if q = i then b else lget l q := by
  unfold lget lset
  rw [List.getD, List.getD, List.getElem?_set]
  by_cases e : i.toNat = q.toNat
  · rw [if_pos e, if_pos (by omega), if_pos (by omega)]; rfl
  · rw [if_neg e, if_neg (by omega)]
theorem lget_repB (N : Nat) (q : Int) : lget (List.replicate N false) q = false := by
  unfold lget
  rw [List.getD, List.getElem?_replicate]
  split <;> rfl
theorem gap_l3 {v : Vector Int 256} (h : VB v) : ∀ (m b fuel : Nat) (x : List Bool), b + m = 256 → m < fuel → x.length = (kcl v).toNat → (∀ c : Nat, lget x (c : Int) = true ↔ ∃ j : Nat, j < b ∧ vget v (j : Int) = c) →
    ∃ y : List Bool, dfa_gapless_l3 5000 v fuel x (b : Int) = dfa_gapless_c2 5000 y ∧ y.length = (kcl v).toNat ∧ ∀ c : Nat, lget y (c : Int) = hasB v c
  | 0, b, f + 1, x, hb, _, hx, hs => by
    rw [dfa_gapless_l3.eq_2, if_neg (by omega)]
    refine ⟨x, rfl, hx, fun c => ?_⟩
    rw [Bool.eq_iff_iff, hs c, hasB_iff, show b = 256 by omega]
  | m + 1, b, f + 1, x, hb, hf, hx, hs => by
    have h0 := h (b : Int)
    have h1 := kc_rng h 256
    have h2 : kcl v = kc v 256 := rfl
    have h3 := kcl_lt (v := v) (b := b) (by omega)
    have hlt : vget v (b : Int) < (x.length : Int) := by omega
    rw [dfa_gapless_l3.eq_2, if_pos (by omega), if_pos ⟨by omega, by omega⟩, if_pos ⟨h0.1, hlt⟩, w64s (by omega) (by omega)]
    have ih := gap_l3 h m (b + 1) f (lset x (vget v (b : Int)) true) (by omega) (by omega) (by rw [lset_len]; exact hx) (fun c => by
      rw [lget_lsetB x _ _ true h0.1 hlt (by omega)]
      constructor
      · intro q
        by_cases e : (c : Int) = vget v (b : Int)
        · exact ⟨b, by omega, e.symm⟩
        · rw [if_neg e] at q
          obtain ⟨j, j1, j2⟩ := (hs c).1 q
          exact ⟨j, by omega, j2⟩
      · rintro ⟨j, j1, j2⟩
        by_cases e : (c : Int) = vget v (b : Int)
        · rw [if_pos e]
        · rw [if_neg e]
          refine (hs c).2 ⟨j, ?_, j2⟩
          by_cases q : j = b
          · subst q; exact absurd j2.symm e
          · omega)
    exact_mod_cast ih
theorem gap_eq {v : Vector Int 256} (h : VB v) : dfa_gapless 5000 v (kcl v) = some (gapB v) := by
  have h1 := kc_rng h 256
  have h2 : kcl v = kc v 256 := rfl
  unfold dfa_gapless
  rw [if_pos ⟨by omega, by omega, by omega⟩]
  obtain ⟨y, y1, y2, y3⟩ := gap_l3 h 256 0 5000 (List.replicate (kcl v).toNat false) (by omega) (by omega) (by simp) (fun c => by rw [lget_repB]; simp)
  rw [Int.natCast_zero] at y1
  rw [y1, dfa_gapless_c2]
  have e := gap_l1 y (by omega) y.length 0 5000 (by omega) (by omega)
  rw [Int.natCast_zero] at e
  rw [e, gapB, y2]
  congr 1
  rw [Bool.eq_iff_iff, allB_iff, allB_iff]
  exact ⟨fun q j a b => by rw [← y3 j]; exact q j a b, fun q j a b => by rw [y3 j]; exact q j a b⟩
/-! Rows. -/
def entB (d : S30) (r : List Int) (c : Nat) : Bool := decide (-1 ≤ lget r (c : Int) ∧ lget r (c : Int) < (d.f1.length : Int))
def rowB (d : S30) (i : Nat) : Bool := decide (((lget d.f1 (i : Int)).length : Int) = kcl d.f0 ∧ -1 ≤ lget d.f2 (i : Int) ∧ lget d.f2 (i : Int) < 32768) && allB (entB d (lget d.f1 (i : Int))) (lget d.f1 (i : Int)).length 0
def rgB (d : S30) : Bool := decide (1 ≤ d.f1.length ∧ d.f2.length = d.f1.length) && gapB d.f0 && allB (rowB d) d.f1.length 0
theorem rright_l2 {d : S30} (rec11 : Int → Option Bool) (i : Nat) (hi : i < d.f1.length) (hl : (lget d.f1 (i : Int)).length ≤ 256) (hn : d.f1.length ≤ 1000) : ∀ (m c fuel : Nat), c + m = (lget d.f1 (i : Int)).length → m < fuel →
    bosketref08_Right_l2 5000 rec11 d (i : Int) fuel (c : Int) = if allB (entB d (lget d.f1 (i : Int))) m c = true then bosketref08_Right_c1 5000 rec11 (i : Int) else some false
  | 0, c, f + 1, hc, _ => by
    rw [bosketref08_Right_l2.eq_2, if_pos ⟨by omega, by omega⟩, if_neg (by omega), allB, if_pos rfl]
  | m + 1, c, f + 1, hc, hf => by
    have ih := rright_l2 rec11 i hi hl hn m (c + 1) f (by omega) (by omega)
    have g : 0 ≤ (i : Int) ∧ (i : Int) < (d.f1.length : Int) := ⟨by omega, by omega⟩
    have g2 : 0 ≤ (c : Int) ∧ (c : Int) < ((lget d.f1 (i : Int)).length : Int) := ⟨by omega, by omega⟩
    rw [bosketref08_Right_l2.eq_2, if_pos g, if_pos g2.2, if_pos g, if_pos g2, if_pos g, if_pos g2]
    have key : (if lget (lget d.f1 (i : Int)) (c : Int) < (-1 : Int) then some true else some (decide ((d.f1.length : Int) ≤ lget (lget d.f1 (i : Int)) (c : Int)))) = some (!entB d (lget d.f1 (i : Int)) c) := by
      unfold entB
      by_cases a : lget (lget d.f1 (i : Int)) (c : Int) < (-1 : Int)
      · rw [if_pos a, decide_eq_false (by omega)]; rfl
      · rw [if_neg a]
        by_cases b : (d.f1.length : Int) ≤ lget (lget d.f1 (i : Int)) (c : Int)
        · rw [decide_eq_true b, decide_eq_false (by omega)]; rfl
        · rw [decide_eq_false b, decide_eq_true (by omega)]; rfl
    rw [key, Option.bind_some, w64s (by omega) (by omega), allB]
    cases entB d (lget d.f1 (i : Int)) c with
    | false => rfl
    | true => rw [if_neg (by decide), Bool.true_and]; exact_mod_cast ih
theorem right_l2 {d : S30} (rec12 : Int → Option Bool) (i : Nat) (hi : i < d.f1.length) (hl : (lget d.f1 (i : Int)).length ≤ 256) (hn : d.f1.length ≤ 1000) : ∀ (m c fuel : Nat), c + m = (lget d.f1 (i : Int)).length → m < fuel →
    dfa_Right_l2 5000 rec12 d (i : Int) fuel (c : Int) = if allB (entB d (lget d.f1 (i : Int))) m c = true then dfa_Right_c1 5000 rec12 (i : Int) else some false
  | 0, c, f + 1, hc, _ => by
    rw [dfa_Right_l2.eq_2, if_neg (by omega), allB, if_pos rfl]
  | m + 1, c, f + 1, hc, hf => by
    have ih := right_l2 rec12 i hi hl hn m (c + 1) f (by omega) (by omega)
    have g2 : 0 ≤ (c : Int) ∧ (c : Int) < ((lget d.f1 (i : Int)).length : Int) := ⟨by omega, by omega⟩
    rw [dfa_Right_l2.eq_2, if_pos g2.2, if_pos g2]
    have key : (if lget (lget d.f1 (i : Int)) (c : Int) < (-1 : Int) then some true else some (decide ((d.f1.length : Int) ≤ lget (lget d.f1 (i : Int)) (c : Int)))) = some (!entB d (lget d.f1 (i : Int)) c) := by
      unfold entB
      by_cases a : lget (lget d.f1 (i : Int)) (c : Int) < (-1 : Int)
      · rw [if_pos a, decide_eq_false (by omega)]; rfl
      · rw [if_neg a]
        by_cases b : (d.f1.length : Int) ≤ lget (lget d.f1 (i : Int)) (c : Int)
        · rw [decide_eq_true b, decide_eq_false (by omega)]; rfl
        · rw [decide_eq_false b, decide_eq_true (by omega)]; rfl
    rw [key, Option.bind_some, w64s (by omega) (by omega), allB]
    cases entB d (lget d.f1 (i : Int)) c with
    | false => rfl
    | true => rw [if_neg (by decide), Bool.true_and]; exact_mod_cast ih
theorem row_key {d : S30} (i : Nat) (hi : i < d.f1.length) (h2 : d.f2.length = d.f1.length) : (if ((lget d.f1 (i : Int)).length : Int) ≠ kcl d.f0 then some true else if 0 ≤ (i : Int) ∧ (i : Int) < (d.f2.length : Int) then if lget d.f2 (i : Int) < (-1 : Int) then some true else if 0 ≤ (i : Int) ∧ (i : Int) < (d.f2.length : Int) then some (decide ((32768 : Int) ≤ lget d.f2 (i : Int))) else none else none) =
    some (!decide (((lget d.f1 (i : Int)).length : Int) = kcl d.f0 ∧ -1 ≤ lget d.f2 (i : Int) ∧ lget d.f2 (i : Int) < 32768)) := by
  have g : 0 ≤ (i : Int) ∧ (i : Int) < (d.f2.length : Int) := ⟨by omega, by omega⟩
  rw [if_pos g, if_pos g]
  by_cases a : ((lget d.f1 (i : Int)).length : Int) = kcl d.f0
  · rw [if_neg (by simpa using a)]
    by_cases b : lget d.f2 (i : Int) < (-1 : Int)
    · rw [if_pos b, decide_eq_false (by omega)]; rfl
    · rw [if_neg b]
      by_cases c : (32768 : Int) ≤ lget d.f2 (i : Int)
      · rw [decide_eq_true c, decide_eq_false (by omega)]; rfl
      · rw [decide_eq_false c, decide_eq_true ⟨a, by omega, by omega⟩]; rfl
  · rw [if_pos a, decide_eq_false (fun q => a q.1)]; rfl
theorem rright_l3 {d : S30} (hv : VB d.f0) (h2 : d.f2.length = d.f1.length) (hl : ∀ r ∈ d.f1, r.length ≤ 256) (hn : d.f1.length ≤ 1000) : ∀ (m i fuel : Nat), i + m = d.f1.length → m < fuel →
    bosketref08_Right_l3 5000 d fuel (i : Int) = some (allB (rowB d) m i)
  | 0, i, f + 1, hi, _ => by
    rw [bosketref08_Right_l3.eq_2, if_neg (by omega)]; rfl
  | m + 1, i, f + 1, hi, hf => by
    have hi' : i < d.f1.length := by omega
    have hr : (lget d.f1 (i : Int)).length ≤ 256 := by rw [lget_lt _ i hi']; exact hl _ (List.getElem_mem hi')
    have ih := rright_l3 hv h2 hl hn m (i + 1) f (by omega) (by omega)
    have e := rright_l2 (bosketref08_Right_l3 5000 d f) i hi' hr hn (lget d.f1 (i : Int)).length 0 5000 (by omega) (by omega)
    rw [Int.natCast_zero] at e
    rw [bosketref08_Right_l3.eq_2, if_pos (by omega), if_pos ⟨by omega, by omega⟩, classes_eq hv, Option.bind_some, row_key i hi' h2, Option.bind_some, e, allB, rowB]
    cases decide (((lget d.f1 (i : Int)).length : Int) = kcl d.f0 ∧ -1 ≤ lget d.f2 (i : Int) ∧ lget d.f2 (i : Int) < 32768) with
    | false => rfl
    | true =>
      rw [if_neg (by decide), Bool.true_and]
      cases allB (entB d (lget d.f1 (i : Int))) (lget d.f1 (i : Int)).length 0 with
      | false => rfl
      | true => rw [if_pos rfl, bosketref08_Right_c1, w64s (by omega) (by omega), Bool.true_and]; exact_mod_cast ih
theorem right_l3 {d : S30} (h2 : d.f2.length = d.f1.length) (hl : ∀ r ∈ d.f1, r.length ≤ 256) (hn : d.f1.length ≤ 1000) : ∀ (m i fuel : Nat), i + m = d.f1.length → m < fuel →
    dfa_Right_l3 5000 d (kcl d.f0) fuel (i : Int) = some (allB (rowB d) m i)
  | 0, i, f + 1, hi, _ => by
    rw [dfa_Right_l3.eq_2, if_neg (by omega)]; rfl
  | m + 1, i, f + 1, hi, hf => by
    have hi' : i < d.f1.length := by omega
    have hr : (lget d.f1 (i : Int)).length ≤ 256 := by rw [lget_lt _ i hi']; exact hl _ (List.getElem_mem hi')
    have ih := right_l3 h2 hl hn m (i + 1) f (by omega) (by omega)
    have e := right_l2 (dfa_Right_l3 5000 d (kcl d.f0) f) i hi' hr hn (lget d.f1 (i : Int)).length 0 5000 (by omega) (by omega)
    rw [Int.natCast_zero] at e
    rw [dfa_Right_l3.eq_2, if_pos (by omega), if_pos ⟨by omega, by omega⟩, row_key i hi' h2, Option.bind_some, e, allB, rowB]
    cases decide (((lget d.f1 (i : Int)).length : Int) = kcl d.f0 ∧ -1 ≤ lget d.f2 (i : Int) ∧ lget d.f2 (i : Int) < 32768) with
    | false => rfl
    | true =>
      rw [if_neg (by decide), Bool.true_and]
      cases allB (entB d (lget d.f1 (i : Int))) (lget d.f1 (i : Int)).length 0 with
      | false => rfl
      | true => rw [if_pos rfl, dfa_Right_c1, w64s (by omega) (by omega), Bool.true_and]; exact_mod_cast ih
theorem rdright_eq {d : S30} (hv : VB d.f0) (hl : ∀ r ∈ d.f1, r.length ≤ 256) (hn : d.f1.length ≤ 1000) : bosketref08_Right 5000 d = some (rgB d) := by
  unfold bosketref08_Right rgB
  by_cases a : (d.f1.length : Int) < 1
  · rw [if_pos a, Option.bind_some, if_pos rfl, decide_eq_false (by omega)]; rfl
  rw [if_neg a, if_neg (by omega)]
  by_cases b : (d.f2.length : Int) = (d.f1.length : Int)
  · rw [if_neg (by simpa using b), rgap_eq hv, Option.bind_some, Option.bind_some, decide_eq_true ⟨by omega, by omega⟩]
    cases gapB d.f0 with
    | false => rfl
    | true =>
      rw [if_neg (by decide)]
      have := rright_l3 hv (by omega) hl hn d.f1.length 0 5000 (by omega) (by omega)
      simpa using this
  · rw [if_pos b, Option.bind_some, if_pos rfl, decide_eq_false (by omega)]; rfl
theorem dright_eq {d : S30} (hv : VB d.f0) (hl : ∀ r ∈ d.f1, r.length ≤ 256) (hn : d.f1.length ≤ 1000) : dfa_Right 5000 d = some (rgB d) := by
  unfold dfa_Right rgB
  by_cases a : (d.f1.length : Int) = 0
  · rw [if_pos a, Option.bind_some, if_pos rfl, decide_eq_false (by omega)]; rfl
  rw [if_neg a, if_neg (by omega)]
  by_cases b : (d.f2.length : Int) = (d.f1.length : Int)
  · rw [decide_eq_false (by simpa using b), Option.bind_some, if_neg (by decide), count_eq hv, Option.bind_some, gap_eq hv, Option.bind_some, decide_eq_true ⟨by omega, by omega⟩]
    cases gapB d.f0 with
    | false => rfl
    | true =>
      rw [if_neg (by decide)]
      have := right_l3 (by omega) hl hn d.f1.length 0 5000 (by omega) (by omega)
      simpa using this
  · rw [decide_eq_true b, Option.bind_some, if_pos rfl, decide_eq_false (by omega)]; rfl
/-- A machine that may be, not too large. -/
structure Dr (d : S30) : Prop where
  n1 : 1 ≤ d.f1.length
  n2 : d.f1.length ≤ 1000
  ml : d.f2.length = d.f1.length
  vb : VB d.f0
  gap : ∀ c : Nat, (c : Int) < kcl d.f0 → ∃ b : Nat, b < 256 ∧ vget d.f0 (b : Int) = c
  row : ∀ r ∈ d.f1, (r.length : Int) = kcl d.f0
  ent : ∀ r ∈ d.f1, ∀ x ∈ r, -1 ≤ x ∧ x < (d.f1.length : Int)
  mark : ∀ m ∈ d.f2, -1 ≤ m ∧ m < 32768
theorem lget_mem {α : Type} [Inhabited α] {l : List α} {x : α} (h : x ∈ l) : ∃ j : Nat, j < l.length ∧ lget l (j : Int) = x := by
  obtain ⟨j, hj, rfl⟩ := List.getElem_of_mem h
  exact ⟨j, hj, lget_lt l j hj⟩
theorem mem_lget {α : Type} [Inhabited α] {l : List α} {i : Int} (h0 : 0 ≤ i) (h1 : i < (l.length : Int)) : lget l i ∈ l := by
  have : lget l i = l[i.toNat]'(by omega) := by
    have := lget_lt l i.toNat (by omega)
    rwa [Int.toNat_of_nonneg h0] at this
  rw [this]; exact List.getElem_mem _
theorem rgB_iff {d : S30} (hv : VB d.f0) (hn : d.f1.length ≤ 1000) : rgB d = true ↔ Dr d := by
  have hk := kc_rng hv 256
  have hk2 : kcl d.f0 = kc d.f0 256 := rfl
  simp only [rgB, Bool.and_eq_true, decide_eq_true_eq, gapB, allB_iff, rowB, entB]
  constructor
  · rintro ⟨⟨⟨h1, h2⟩, h3⟩, h4⟩
    refine ⟨h1, hn, h2, hv, fun c hc => (hasB_iff _ c).1 (h3 c (by omega) (by omega)), fun r hr => ?_, fun r hr x hx => ?_, fun m hm => ?_⟩
    · obtain ⟨j, hj, rfl⟩ := lget_mem hr
      exact (h4 j (by omega) (by omega)).1.1
    · obtain ⟨j, hj, rfl⟩ := lget_mem hr
      obtain ⟨c, hc, rfl⟩ := lget_mem hx
      exact (h4 j (by omega) (by omega)).2 c (by omega) (by omega)
    · obtain ⟨j, hj, rfl⟩ := lget_mem hm
      exact (h4 j (by omega) (by omega)).1.2
  · intro h
    refine ⟨⟨⟨h.n1, h.ml⟩, fun j _ hj => (hasB_iff _ j).2 (h.gap j (by omega))⟩, fun j _ hj => ?_⟩
    have hr : lget d.f1 (j : Int) ∈ d.f1 := mem_lget (by omega) (by omega)
    have hm := h.ml
    exact ⟨⟨h.row _ hr, h.mark _ (mem_lget (by omega) (by omega))⟩, fun c _ hc => h.ent _ hr _ (mem_lget (by omega) (by omega))⟩
theorem Dr.rg {d : S30} (h : Dr d) : rgB d = true := (rgB_iff h.vb h.n2).2 h
theorem Dr.row256 {d : S30} (h : Dr d) : ∀ r ∈ d.f1, r.length ≤ 256 := fun r hr => by
  have h1 := kc_rng h.vb 256
  have h2 : kcl d.f0 = kc d.f0 256 := rfl
  have := h.row r hr
  omega
theorem Dr.right {d : S30} (h : Dr d) : dfa_Right 5000 d = some true := by rw [dright_eq h.vb h.row256 h.n2, h.rg]
theorem Dr.rright {d : S30} (h : Dr d) : bosketref08_Right 5000 d = some true := by rw [rdright_eq h.vb h.row256 h.n2, h.rg]
theorem Dr.rowk {d : S30} (h : Dr d) {i : Int} (h0 : 0 ≤ i) (h1 : i < (d.f1.length : Int)) : ((lget d.f1 i).length : Int) = kcl d.f0 := h.row _ (mem_lget h0 h1)
theorem Dr.entk {d : S30} (h : Dr d) {i c : Int} (h0 : 0 ≤ i) (h1 : i < (d.f1.length : Int)) (c0 : 0 ≤ c) (c1 : c < ((lget d.f1 i).length : Int)) : -1 ≤ lget (lget d.f1 i) c ∧ lget (lget d.f1 i) c < (d.f1.length : Int) := h.ent _ (mem_lget h0 h1) _ (mem_lget c0 c1)
end Go.Avl.T5
/- Machines in one state: which states are reached, from which a mark is reached. -/
namespace Go.Avl.T5
open Go Go.RowKit Go.Proofs Go.Avl
set_option linter.all false
set_option maxRecDepth 10000

abbrev rw' (d : S30) (p : Int) : List Int := lget d.f1 p
/-- Reached from a state. -/
inductive DR (d : S30) (s : Int) : Int → Prop
  | refl : DR d s s
  | step {p : Int} {c : Nat} : DR d s p → (c : Int) < ((rw' d p).length : Int) → 0 ≤ lget (rw' d p) (c : Int) → DR d s (lget (rw' d p) (c : Int))
theorem DR.in {d : S30} (h : Dr d) {s q : Int} (hs : 0 ≤ s ∧ s < (d.f1.length : Int)) (k : DR d s q) : 0 ≤ q ∧ q < (d.f1.length : Int) := by
  induction k with
  | refl => exact hs
  | step _ hc h0 ih => exact ⟨h0, (h.entk ih.1 ih.2 (by omega) hc).2⟩
theorem DR.trans {d : S30} {s p q : Int} (h : DR d s p) (k : DR d p q) : DR d s q := by
  induction k with
  | refl => exact h
  | step _ hc h0 ih => exact .step ih hc h0
/-! Rows of truths. -/
theorem lget_iff (x : List Bool) (q : Int) : lget x q = true ↔ x[q.toNat]? = some true := by
  unfold lget
  rw [List.getD]
  cases x[q.toNat]? with
  | none => simp
  | some b => cases b <;> simp
theorem le_cnt : ∀ (x y : List Bool), x.length = y.length → (∀ j : Nat, x[j]? = some true → y[j]? = some true) → x = y ∨ cnt x < cnt y
  | [], [], _, _ => .inl rfl
  | a :: x, b :: y, hl, h => by
    have ih := le_cnt x y (by simpa using hl) (fun j hj => by have := h (j + 1) (by simpa using hj); simpa using this)
    have h0 : a = true → b = true := fun e => by have := h 0 (by simp [e]); simpa using this
    simp only [cnt, List.count_cons] at ih ⊢
    rcases ih with rfl | ih
    · cases a <;> cases b <;> simp at h0 ⊢
    · right
      cases a <;> cases b <;> simp at h0 ⊢ <;> omega
theorem lext {x y : List Bool} (hl : x.length = y.length) (h : ∀ q : Int, 0 ≤ q → q < (x.length : Int) → (lget x q = true ↔ lget y q = true)) : x = y := by
  apply List.ext_getElem hl
  intro j h1 h2
  have := h (j : Int) (by omega) (by omega)
  rw [lget_lt x j h1, lget_lt y j h2] at this
  rw [Bool.eq_iff_iff]; exact this
/-- One row within another one. -/
def LE (x y : List Bool) : Prop := ∀ q : Int, 0 ≤ q → lget x q = true → lget y q = true
theorem LE.cnt {x y : List Bool} (h : LE x y) (hl : x.length = y.length) : x = y ∨ cnt x < cnt y :=
  le_cnt x y hl fun j hj => by
    have := h (j : Int) (by omega) ((lget_iff _ _).2 (by simpa using hj))
    have := (lget_iff _ _).1 this
    simpa using this
theorem LE.refl (x : List Bool) : LE x x := fun _ _ h => h
theorem LE.trans {x y z : List Bool} (h : LE x y) (k : LE y z) : LE x z := fun q h0 h1 => k q h0 (h q h0 h1)
theorem LE.set {x : List Bool} {i : Int} (h0 : 0 ≤ i) (h1 : i < (x.length : Int)) : LE x (lset x i true) := fun q hq h => by
  rw [lget_lsetB x i q true h0 h1 hq]
  split
  · rfl
  · exact h
/-! The program's walk: an open list. -/
def ps1 (s : List Bool × List Int) (q : Int) : List Bool × List Int := if 0 ≤ q ∧ lget s.1 q = false then (lset s.1 q true, s.2 ++ [q]) else s
def ps (l : List Int) (s : List Bool × List Int) : List Bool × List Int := l.foldl ps1 s
theorem cnt_le_len {x : List Bool} {n : Nat} (h : x.length = n) : cnt x ≤ n := h ▸ cnt_le x
/-- The states that are reached from one. -/
def RS (d : S30) (s : Int) (R : List Bool) : Prop := R.length = d.f1.length ∧ ∀ q, 0 ≤ q → q < (d.f1.length : Int) → (lget R q = true ↔ (0 ≤ s ∧ s < (d.f1.length : Int)) ∧ DR d s q)
theorem one_iff {N : Nat} {s : Int} (hs : 0 ≤ s ∧ s < (N : Int)) {q : Int} (hq : 0 ≤ q) : lget (lset (List.replicate N false) s true) q = true ↔ q = s := by
  rw [lget_lsetB _ _ _ true hs.1 (by simp; omega) hq]
  by_cases e : q = s
  · simp [e]
  · rw [if_neg e, lget_repB]; simp [e]
/-! The document's walk: rounds. -/
def sL (l : List Int) (x : List Bool) : List Bool := l.foldl (fun x q => if 0 ≤ q then lset x q true else x) x
theorem sL_len : ∀ (l : List Int) (x : List Bool), (sL l x).length = x.length
  | [], _ => rfl
  | q :: l, x => by
    show (sL l (if 0 ≤ q then lset x q true else x)).length = _
    rw [sL_len l]
    split
    · exact lset_len _ _ _
    · rfl
theorem sL_iff {N : Int} {q : Int} (hq : 0 ≤ q) : ∀ (l : List Int) (x : List Bool), (∀ q ∈ l, q < N) → (x.length : Int) = N → (lget (sL l x) q = true ↔ lget x q = true ∨ q ∈ l)
  | [], x, _, _ => by simp [sL]
  | p :: l, x, h, hx => by
    have hp := h p (by simp)
    have ih := sL_iff hq l (if 0 ≤ p then lset x p true else x) (fun q hq => h q (by simp [hq])) (by split <;> simp [lset_len, hx])
    show lget (sL l (if 0 ≤ p then lset x p true else x)) q = true ↔ _
    rw [ih]
    by_cases a : 0 ≤ p
    · rw [if_pos a, lget_lsetB x p q true a (by omega) hq]
      by_cases e : q = p
      · simp [e]
      · rw [if_neg e]; simp [e]
    · rw [if_neg a]
      have : q ≠ p := by omega
      simp [this]
def rp (d : S30) (i : Nat) (x : List Bool) : List Bool := if lget x (i : Int) = true then sL (rw' d i) x else x
def rnd (d : S30) : Nat → Nat → List Bool → List Bool
  | 0, _, x => x
  | m + 1, i, x => rnd d m (i + 1) (rp d i x)
theorem rp_len (d : S30) (i : Nat) (x : List Bool) : (rp d i x).length = x.length := by
  unfold rp; split
  · exact sL_len _ _
  · rfl
theorem rnd_len (d : S30) : ∀ (m i : Nat) (x : List Bool), (rnd d m i x).length = x.length
  | 0, _, _ => rfl
  | m + 1, i, x => by rw [rnd, rnd_len d m, rp_len]
theorem row_lt {d : S30} (h : Dr d) {p : Int} (h0 : 0 ≤ p) (h1 : p < (d.f1.length : Int)) : ∀ q ∈ rw' d p, q < (d.f1.length : Int) := fun q hq => (h.ent _ (mem_lget h0 h1) q hq).2
theorem rp_le {d : S30} (h : Dr d) {i : Nat} (hi : i < d.f1.length) {x : List Bool} (hx : x.length = d.f1.length) : LE x (rp d i x) := by
  unfold rp; split
  · intro q hq hg
    exact (sL_iff (N := (d.f1.length : Int)) hq _ _ (row_lt h (by omega) (by omega)) (by rw [hx])).2 (.inl hg)
  · exact LE.refl x
theorem rnd_le {d : S30} (h : Dr d) : ∀ (m i : Nat) (x : List Bool), i + m = d.f1.length → x.length = d.f1.length → LE x (rnd d m i x)
  | 0, _, x, _, _ => LE.refl x
  | m + 1, i, x, hi, hx => by
    rw [rnd]
    exact (rp_le h (by omega) hx).trans (rnd_le h m (i + 1) _ (by omega) (by rw [rp_len]; exact hx))
theorem LE.antisymm {x y : List Bool} (hl : x.length = y.length) (h : LE x y) (k : LE y x) : x = y := lext hl fun q h0 h1 => ⟨h q h0, k q h0⟩
theorem rnd_fix {d : S30} (h : Dr d) : ∀ (m i : Nat) (x : List Bool), i + m = d.f1.length → x.length = d.f1.length → rnd d m i x = x → ∀ j : Nat, i ≤ j → j < d.f1.length → lget x (j : Int) = true → ∀ q ∈ rw' d (j : Int), 0 ≤ q → lget x q = true
  | 0, i, x, hi, hx, _, j, h1, h2, _, q, hq, h0 => by omega
  | m + 1, i, x, hi, hx, e, j, h1, h2, hg, q, hq, h0 => by
    rw [rnd] at e
    have l1 := rp_le h (i := i) (by omega) hx
    have l2 := rnd_le h m (i + 1) (rp d i x) (by omega) (by rw [rp_len]; exact hx)
    rw [e] at l2
    have ex : rp d i x = x := LE.antisymm (rp_len _ _ _) l2 l1
    by_cases a : j = i
    · subst a
      unfold rp at ex
      rw [if_pos hg] at ex
      rw [← ex]
      exact (sL_iff (N := (d.f1.length : Int)) h0 _ _ (row_lt h (by omega) (by omega)) (by rw [hx])).2 (.inr hq)
    · rw [ex] at e
      exact rnd_fix h m (i + 1) x (by omega) hx e j (by omega) h2 hg q hq h0
def its (d : S30) : Nat → List Bool → List Bool
  | 0, x => x
  | k + 1, x => its d k (rnd d d.f1.length 0 x)
theorem its_len (d : S30) : ∀ (k : Nat) (x : List Bool), (its d k x).length = x.length
  | 0, _ => rfl
  | k + 1, x => by rw [its, its_len d k, rnd_len]
theorem its_fix {d : S30} : ∀ (k : Nat) (x : List Bool), rnd d d.f1.length 0 x = x → its d k x = x
  | 0, _, _ => rfl
  | k + 1, x, h => by rw [its, h, its_fix k x h]
theorem its_done {d : S30} (h : Dr d) : ∀ (k : Nat) (x : List Bool), x.length = d.f1.length → d.f1.length - cnt x ≤ k → rnd d d.f1.length 0 (its d k x) = its d k x
  | 0, x, hx, hk => by
    have l := rnd_le h d.f1.length 0 x (by omega) hx
    have hl := rnd_len d d.f1.length 0 x
    rcases LE.cnt l hl.symm with e | e
    · exact e.symm
    · have := cnt_le_len (hl.trans hx); omega
  | k + 1, x, hx, hk => by
    have l := rnd_le h d.f1.length 0 x (by omega) hx
    have hl := rnd_len d d.f1.length 0 x
    rcases LE.cnt l hl.symm with e | e
    · rw [its_fix (k + 1) x e.symm]; exact e.symm
    · rw [its]
      have := cnt_le_len (hl.trans hx)
      exact its_done h k _ (hl.trans hx) (by omega)
theorem rnd_snd {d : S30} (h : Dr d) {s : Int} (hs : 0 ≤ s ∧ s < (d.f1.length : Int)) : ∀ (m i : Nat) (x : List Bool), i + m = d.f1.length → x.length = d.f1.length → (∀ q, 0 ≤ q → lget x q = true → DR d s q) → ∀ q, 0 ≤ q → lget (rnd d m i x) q = true → DR d s q
  | 0, _, x, _, _, hq => hq
  | m + 1, i, x, hi, hx, hq => by
    rw [rnd]
    refine rnd_snd h hs m (i + 1) _ (by omega) (by rw [rp_len]; exact hx) fun q h0 hg => ?_
    unfold rp at hg
    split at hg
    · rename_i c
      rcases (sL_iff (N := (d.f1.length : Int)) h0 _ _ (row_lt h (by omega) (by omega)) (by rw [hx])).1 hg with k | k
      · exact hq q h0 k
      · obtain ⟨c', hc, rfl⟩ := lget_mem k
        exact .step (hq _ (by omega) c) (by omega) h0
    · exact hq q h0 hg
theorem its_snd {d : S30} (h : Dr d) {s : Int} (hs : 0 ≤ s ∧ s < (d.f1.length : Int)) : ∀ (k : Nat) (x : List Bool), x.length = d.f1.length → (∀ q, 0 ≤ q → lget x q = true → DR d s q) → ∀ q, 0 ≤ q → lget (its d k x) q = true → DR d s q
  | 0, x, _, hq => hq
  | k + 1, x, hx, hq => by
    rw [its]
    exact its_snd h hs k _ (by rw [rnd_len]; exact hx) (rnd_snd h hs d.f1.length 0 x (by omega) hx hq)
theorem its_le {d : S30} (h : Dr d) : ∀ (k : Nat) (x : List Bool), x.length = d.f1.length → LE x (its d k x)
  | 0, x, _ => LE.refl x
  | k + 1, x, hx => by
    rw [its]
    exact (rnd_le h d.f1.length 0 x (by omega) hx).trans (its_le h k _ (by rw [rnd_len]; exact hx))
theorem rreach_l4 {d : S30} (h : Dr d) (rec20 : List Bool → Int → Option (List Bool)) (i : Nat) (hi : i < d.f1.length) : ∀ (m c fuel : Nat) (x : List Bool), c + m = (rw' d i).length → m < fuel → x.length = d.f1.length → lget x (i : Int) = true →
    bosketref08_Reached_l4 5000 rec20 d (i : Int) fuel x (c : Int) = bosketref08_Reached_c2 5000 rec20 (i : Int) (sL ((rw' d i).drop c) x)
  | 0, c, f + 1, x, hc, _, hx, hg => by
    have g : 0 ≤ (i : Int) ∧ (i : Int) < (x.length : Int) := ⟨by omega, by omega⟩
    have hcn : ¬ (c : Int) < ((lget d.f1 (i : Int)).length : Int) := by
      have : ¬ (c : Int) < ((rw' d i).length : Int) := by omega
      exact this
    rw [bosketref08_Reached_l4.eq_2, if_pos g, if_pos hg, if_pos ⟨by omega, by omega⟩, Option.bind_some, if_neg (by simpa using hcn), List.drop_of_length_le (by omega)]; rfl
  | m + 1, c, f + 1, x, hc, hf, hx, hg => by
    have hc' : c < (rw' d i).length := by omega
    have hcI : (c : Int) < ((lget d.f1 (i : Int)).length : Int) := by
      have : (c : Int) < ((rw' d i).length : Int) := by omega
      exact this
    have he := h.entk (i := (i : Int)) (by omega) (by omega) (c := (c : Int)) (by omega) hcI
    have h256 : (rw' d i).length ≤ 256 := h.row256 _ (mem_lget (l := d.f1) (i := (i : Int)) (by omega) (by omega))
    have hn := h.n2
    have g : 0 ≤ (i : Int) ∧ (i : Int) < (x.length : Int) := ⟨by omega, by omega⟩
    have g1 : 0 ≤ (i : Int) ∧ (i : Int) < (d.f1.length : Int) := ⟨by omega, by omega⟩
    have ge : lget (lget d.f1 (i : Int)) (c : Int) = (rw' d i)[c] := lget_lt (rw' d i) c hc'
    rw [bosketref08_Reached_l4.eq_2, if_pos g, if_pos hg, if_pos g1, Option.bind_some, if_pos (by simpa using hcI), if_pos g1, if_pos ⟨by omega, hcI⟩, List.drop_eq_getElem_cons hc']
    show _ = bosketref08_Reached_c2 5000 rec20 (i : Int) (sL ((rw' d i).drop (c + 1)) (if 0 ≤ (rw' d i)[c] then lset x (rw' d i)[c] true else x))
    rw [← ge]
    generalize lget (lget d.f1 (i : Int)) (c : Int) = q at he
    by_cases a : 0 ≤ q
    · rw [if_pos a, if_pos ⟨a, by omega⟩, if_pos a, bosketref08_Reached_c3, w64s (by omega) (by omega)]
      have ih := rreach_l4 h rec20 i hi m (c + 1) f (lset x q true) (by omega) (by omega) (by rw [lset_len]; exact hx) (LE.set a (by omega) _ (by omega) hg)
      exact_mod_cast ih
    · rw [if_neg a, if_neg a, bosketref08_Reached_c3, w64s (by omega) (by omega)]
      have ih := rreach_l4 h rec20 i hi m (c + 1) f x (by omega) (by omega) hx hg
      exact_mod_cast ih
theorem rreach_l5 {d : S30} (h : Dr d) (rec14 : List Bool → Int → Option (List Bool)) (x13 : Int) : ∀ (m i fuel : Nat) (x : List Bool), i + m = d.f1.length → m < fuel → x.length = d.f1.length →
    bosketref08_Reached_l5 5000 rec14 d x13 fuel x (i : Int) = bosketref08_Reached_c1 5000 rec14 x13 (rnd d m i x)
  | 0, i, f + 1, x, hi, _, hx => by
    rw [bosketref08_Reached_l5.eq_2, if_neg (by omega)]; rfl
  | m + 1, i, f + 1, x, hi, hf, hx => by
    have hn := h.n2
    have ih := fun y hy => rreach_l5 h rec14 x13 m (i + 1) f y (by omega) (by omega) hy
    rw [bosketref08_Reached_l5.eq_2, if_pos (by omega), rnd]
    unfold rp
    by_cases a : lget x (i : Int) = true
    · have h256 : (rw' d i).length ≤ 256 := h.row256 _ (mem_lget (l := d.f1) (i := (i : Int)) (by omega) (by omega))
      have e := rreach_l4 h (bosketref08_Reached_l5 5000 rec14 d x13 f) i (by omega) (rw' d i).length 0 5000 x (by omega) (by omega) hx a
      rw [Int.natCast_zero, List.drop_zero] at e
      rw [e, if_pos a, bosketref08_Reached_c2, w64s (by omega) (by omega)]
      exact_mod_cast ih _ (by rw [sL_len]; exact hx)
    · rw [if_neg a, bosketref08_Reached_l4.eq_2, if_pos ⟨by omega, by omega⟩, if_neg a, Option.bind_some, if_neg (by decide), bosketref08_Reached_c2, w64s (by omega) (by omega)]
      exact_mod_cast ih x hx
theorem rreach_l6 {d : S30} (h : Dr d) : ∀ (m k fuel : Nat) (x : List Bool), k + m = d.f1.length → m < fuel → x.length = d.f1.length → bosketref08_Reached_l6 5000 d fuel x (k : Int) = some (its d m x)
  | 0, k, f + 1, x, hi, _, hx => by
    rw [bosketref08_Reached_l6.eq_2, if_neg (by omega)]; rfl
  | m + 1, k, f + 1, x, hi, hf, hx => by
    have hn := h.n2
    have ih := rreach_l6 h m (k + 1) f (rnd d d.f1.length 0 x) (by omega) (by omega) (by rw [rnd_len]; exact hx)
    have e := rreach_l5 h (bosketref08_Reached_l6 5000 d f) (k : Int) d.f1.length 0 5000 x (by omega) (by omega) hx
    rw [Int.natCast_zero] at e
    rw [bosketref08_Reached_l6.eq_2, if_pos (by omega), e, bosketref08_Reached_c1, w64s (by omega) (by omega), its]
    exact_mod_cast ih
theorem rreached_eq {d : S30} (h : Dr d) (s : Int) : ∃ R, bosketref08_Reached 5000 d s = some R ∧ RS d s R := by
  have hn := h.n2
  unfold bosketref08_Reached
  rw [if_pos ⟨by omega, by omega, by omega⟩, Int.toNat_natCast]
  by_cases a : s < 0
  · rw [if_pos a, Option.bind_some, if_pos rfl]
    exact ⟨_, rfl, by simp, fun q h0 h1 => by rw [lget_repB]; simp; omega⟩
  by_cases b : (d.f1.length : Int) ≤ s
  · rw [if_neg a, Option.bind_some, if_pos (by simpa using b)]
    exact ⟨_, rfl, by simp, fun q h0 h1 => by rw [lget_repB]; simp; omega⟩
  have hs : 0 ≤ s ∧ s < (d.f1.length : Int) := ⟨by omega, by omega⟩
  have hx : (lset (List.replicate d.f1.length false) s true).length = d.f1.length := by rw [lset_len, List.length_replicate]
  rw [if_neg a, Option.bind_some, if_neg (by simpa using b), if_pos ⟨by omega, by simp; omega⟩]
  have e := rreach_l6 h d.f1.length 0 5000 _ (by omega) (by omega) hx
  rw [Int.natCast_zero] at e
  refine ⟨_, e, by rw [its_len]; exact hx, fun q h0 h1 => ⟨fun hg => ⟨hs, its_snd h hs d.f1.length _ hx (fun q h0 hg => by rw [(one_iff hs h0).1 hg]; exact .refl) q h0 hg⟩, fun ⟨_, k⟩ => ?_⟩⟩
  have hd := its_done h d.f1.length _ hx (by omega)
  have hfix := rnd_fix h d.f1.length 0 _ (by omega) (by rw [its_len]; exact hx) hd
  clear h0 h1
  induction k with
  | refl => exact its_le h d.f1.length _ hx s hs.1 ((one_iff hs hs.1).2 rfl)
  | @step p c k hc h0 ih =>
    have hp := k.in h hs
    obtain ⟨j, rfl⟩ := Int.eq_ofNat_of_zero_le hp.1
    exact hfix j (by omega) (by omega) (ih ⟨hs, k⟩) _ (mem_lget (by omega) hc) h0
end Go.Avl.T5
/- Machines in one state: alive, trimmed, alike. -/
namespace Go.Avl.T5
open Go Go.RowKit Go.Proofs Go.Avl
set_option linter.all false
set_option maxRecDepth 10000

/-- From a state some mark is reached. -/
def AL (d : S30) (i : Int) : Prop := ∃ q, DR d i q ∧ 0 ≤ mk d q
def AS (d : S30) (A : List Bool) : Prop := A.length = d.f1.length ∧ ∀ q, 0 ≤ q → q < (d.f1.length : Int) → (lget A q = true ↔ AL d q)
/-! The program's walk. -/
def hit (d : S30) (x : List Bool) (r : List Int) : Bool := r.any fun q => decide (0 ≤ q) && lget x q
def ap (d : S30) (i : Nat) (s : List Bool × Bool) : List Bool × Bool := if lget s.1 (i : Int) = true then s else if hit d s.1 (rw' d i) = true then (lset s.1 (i : Int) true, true) else s
def aps (d : S30) : Nat → Nat → List Bool × Bool → List Bool × Bool
  | 0, _, s => s
  | m + 1, i, s => aps d m (i + 1) (ap d i s)
theorem ap_len (d : S30) (i : Nat) (s : List Bool × Bool) : (ap d i s).1.length = s.1.length := by
  unfold ap; split
  · rfl
  · split
    · exact lset_len _ _ _
    · rfl
theorem aps_len (d : S30) : ∀ (m i : Nat) (s : List Bool × Bool), (aps d m i s).1.length = s.1.length
  | 0, _, _ => rfl
  | m + 1, i, s => by rw [aps, aps_len d m, ap_len]
theorem ap_cnt {d : S30} {i : Nat} (hi : i < d.f1.length) {s : List Bool × Bool} (hs : s.1.length = d.f1.length) : ap d i s = s ∨ ((ap d i s).2 = true ∧ cnt (ap d i s).1 = cnt s.1 + 1) := by
  unfold ap
  split
  · exact .inl rfl
  · rename_i a
    split
    · refine .inr ⟨rfl, ?_⟩
      have hi' : i < s.1.length := by omega
      refine cnt_set s.1 i hi' ?_
      have : lget s.1 (i : Int) = false := by simpa using a
      rw [lget_lt _ i hi'] at this
      rw [List.getElem?_eq_getElem hi', this]
    · exact .inl rfl
theorem aps_cnt {d : S30} : ∀ (m i : Nat) (s : List Bool × Bool), i + m = d.f1.length → s.1.length = d.f1.length → aps d m i s = s ∨ ((aps d m i s).2 = true ∧ cnt s.1 < cnt (aps d m i s).1)
  | 0, _, _, _, _ => .inl rfl
  | m + 1, i, s, hi, hs => by
    rw [aps]
    have ih := aps_cnt (d := d) m (i + 1) (ap d i s) (by omega) (by rw [ap_len]; exact hs)
    rcases ap_cnt (d := d) (i := i) (by omega) hs with q | ⟨q1, q2⟩
    · rw [q] at ih ⊢; exact ih
    · rcases ih with r | ⟨r1, r2⟩
      · rw [r]; exact .inr ⟨q1, by omega⟩
      · exact .inr ⟨r1, by omega⟩
theorem aps_flag (d : S30) : ∀ (m i : Nat) (s : List Bool × Bool), s.2 = true → (aps d m i s).2 = true
  | 0, _, _, h => h
  | m + 1, i, s, h => by
    rw [aps]
    refine aps_flag d m (i + 1) _ ?_
    unfold ap; split
    · exact h
    · split
      · rfl
      · exact h
theorem aps_closed (d : S30) : ∀ (m i : Nat) (x : List Bool), (aps d m i (x, false)).2 = false → (aps d m i (x, false)).1 = x ∧ ∀ j : Nat, i ≤ j → j < i + m → hit d x (rw' d j) = true → lget x (j : Int) = true
  | 0, i, x, _ => ⟨rfl, fun j h1 h2 => by omega⟩
  | m + 1, i, x, h => by
    rw [aps] at h ⊢
    have hs : ap d i (x, false) = (x, false) ∧ (hit d x (rw' d i) = true → lget x (i : Int) = true) := by
      by_cases c : lget x (i : Int) = true
      · exact ⟨by unfold ap; rw [if_pos c], fun _ => c⟩
      · by_cases e : hit d x (rw' d i) = true
        · have hf : (ap d i (x, false)).2 = true := by unfold ap; rw [if_neg c, if_pos e]
          rw [aps_flag d m (i + 1) _ hf] at h; cases h
        · exact ⟨by unfold ap; rw [if_neg c, if_neg e], fun q => absurd q e⟩
    rw [hs.1] at h ⊢
    obtain ⟨k1, k2⟩ := aps_closed d m (i + 1) x h
    refine ⟨k1, fun j h1 h2 h3 => ?_⟩
    by_cases e : j = i
    · subst e; exact hs.2 h3
    · exact k2 j (by omega) (by omega) h3
theorem hit_iff {d : S30} (h : Dr d) {x : List Bool} {i : Nat} (hi : i < d.f1.length) : hit d x (rw' d i) = true ↔ ∃ c : Nat, (c : Int) < ((rw' d i).length : Int) ∧ 0 ≤ lget (rw' d i) (c : Int) ∧ lget x (lget (rw' d i) (c : Int)) = true := by
  unfold hit
  rw [List.any_eq_true]
  constructor
  · rintro ⟨q, hq, hh⟩
    simp only [Bool.and_eq_true, decide_eq_true_eq] at hh
    obtain ⟨c, hc, rfl⟩ := lget_mem hq
    exact ⟨c, by omega, hh.1, hh.2⟩
  · rintro ⟨c, hc, h0, hg⟩
    exact ⟨_, mem_lget (by omega) hc, by simp [h0, hg]⟩
theorem ap_snd {d : S30} (h : Dr d) {i : Nat} (hi : i < d.f1.length) {s : List Bool × Bool} (hs : s.1.length = d.f1.length) (hq : ∀ q, 0 ≤ q → lget s.1 q = true → AL d q) : ∀ q, 0 ≤ q → lget (ap d i s).1 q = true → AL d q := by
  intro q h0 hg
  unfold ap at hg
  split at hg
  · exact hq q h0 hg
  · split at hg
    · rename_i c
      have hg' : lget (lset s.1 (i : Int) true) q = true := hg
      rw [lget_lsetB s.1 i q true (by omega) (by omega) h0] at hg'
      by_cases e : q = (i : Int)
      · subst e
        obtain ⟨c, hc, k0, kg⟩ := (hit_iff h hi).1 c
        obtain ⟨r, r1, r2⟩ := hq _ k0 kg
        exact ⟨r, (DR.step .refl hc k0).trans r1, r2⟩
      · rw [if_neg e] at hg'; exact hq q h0 hg'
    · exact hq q h0 hg
theorem aps_snd {d : S30} (h : Dr d) : ∀ (m i : Nat) (s : List Bool × Bool), i + m = d.f1.length → s.1.length = d.f1.length → (∀ q, 0 ≤ q → lget s.1 q = true → AL d q) → ∀ q, 0 ≤ q → lget (aps d m i s).1 q = true → AL d q
  | 0, _, _, _, _, hq => hq
  | m + 1, i, s, hi, hs, hq => by
    rw [aps]
    exact aps_snd h m (i + 1) _ (by omega) (by rw [ap_len]; exact hs) (ap_snd h (by omega) hs hq)
theorem aps_le {d : S30} : ∀ (m i : Nat) (s : List Bool × Bool), i + m = d.f1.length → s.1.length = d.f1.length → LE s.1 (aps d m i s).1
  | 0, _, s, _, _ => LE.refl _
  | m + 1, i, s, hi, hs => by
    rw [aps]
    refine LE.trans ?_ (aps_le m (i + 1) _ (by omega) (by rw [ap_len]; exact hs))
    unfold ap; split
    · exact LE.refl _
    · split
      · exact LE.set (by omega) (by omega)
      · exact LE.refl _
theorem alive_l2 {d : S30} (h : Dr d) (rec15 : List Bool → Bool → Int → Option (List Bool)) (x : List Bool) (b : Bool) (i : Nat) (hi : i < d.f1.length) (hx : x.length = d.f1.length) : ∀ (m c fuel : Nat), c + m = (rw' d i).length → m < fuel →
    dfa_Alive_l2 5000 rec15 d x b (i : Int) fuel (c : Int) = if hit d x ((rw' d i).drop c) = true then dfa_Alive_c1 5000 rec15 (i : Int) (lset x (i : Int) true) true else dfa_Alive_c1 5000 rec15 (i : Int) x b
  | 0, c, f + 1, hc, _ => by
    have hcn : ¬ (c : Int) < ((lget d.f1 (i : Int)).length : Int) := by
      have : ¬ (c : Int) < ((rw' d i).length : Int) := by omega
      exact this
    rw [dfa_Alive_l2.eq_2, if_neg hcn, List.drop_of_length_le (by omega)]; rfl
  | m + 1, c, f + 1, hc, hf => by
    have hc' : c < (rw' d i).length := by omega
    have hcI : (c : Int) < ((lget d.f1 (i : Int)).length : Int) := by
      have : (c : Int) < ((rw' d i).length : Int) := by omega
      exact this
    have he := h.entk (i := (i : Int)) (by omega) (by omega) (c := (c : Int)) (by omega) hcI
    have h256 : (rw' d i).length ≤ 256 := h.row256 _ (mem_lget (l := d.f1) (i := (i : Int)) (by omega) (by omega))
    have ge : lget (lget d.f1 (i : Int)) (c : Int) = (rw' d i)[c] := lget_lt (rw' d i) c hc'
    have ih := alive_l2 h rec15 x b i hi hx m (c + 1) f (by omega) (by omega)
    rw [dfa_Alive_l2.eq_2, if_pos hcI, if_pos ⟨by omega, hcI⟩, List.drop_eq_getElem_cons hc']
    show _ = if ((decide (0 ≤ (rw' d i)[c]) && lget x (rw' d i)[c]) || hit d x ((rw' d i).drop (c + 1))) = true then _ else _
    rw [← ge]
    generalize lget (lget d.f1 (i : Int)) (c : Int) = q at he
    by_cases a : 0 ≤ q
    · rw [if_pos a, if_pos (by omega), if_pos ⟨a, by omega⟩, Option.bind_some, decide_eq_true a, Bool.true_and]
      cases lget x q with
      | true => rw [if_pos rfl, if_pos ⟨by omega, by omega⟩, Bool.true_or, if_pos rfl]
      | false =>
        rw [if_neg (by decide), Bool.false_or, w64s (by omega) (by omega)]
        exact_mod_cast ih
    · rw [if_neg a, Option.bind_some, if_neg (by decide), decide_eq_false a, Bool.false_and, Bool.false_or, w64s (by omega) (by omega)]
      exact_mod_cast ih
theorem alive_l3 {d : S30} (h : Dr d) (rec9 : List Bool → Bool → Option (List Bool)) : ∀ (m i fuel : Nat) (x : List Bool) (b : Bool), i + m = d.f1.length → m < fuel → x.length = d.f1.length →
    dfa_Alive_l3 5000 rec9 d fuel x b (i : Int) = rec9 (aps d m i (x, b)).1 (aps d m i (x, b)).2
  | 0, i, f + 1, x, b, hi, _, hx => by
    rw [dfa_Alive_l3.eq_2, if_neg (by omega)]; rfl
  | m + 1, i, f + 1, x, b, hi, hf, hx => by
    have hn := h.n2
    have h256 : (rw' d i).length ≤ 256 := h.row256 _ (mem_lget (l := d.f1) (i := (i : Int)) (by omega) (by omega))
    have ih := fun y b hy => alive_l3 h rec9 m (i + 1) f y b (by omega) (by omega) hy
    rw [dfa_Alive_l3.eq_2, if_pos (by omega), if_pos ⟨by omega, by omega⟩, if_pos ⟨by omega, by omega⟩, aps]
    unfold ap
    by_cases a : lget x (i : Int) = true
    · rw [if_pos a, if_pos a, dfa_Alive_c1, w64s (by omega) (by omega)]
      exact_mod_cast ih x b hx
    · have e := alive_l2 h (dfa_Alive_l3 5000 rec9 d f) x b i (by omega) hx (rw' d i).length 0 5000 (by omega) (by omega)
      rw [Int.natCast_zero, List.drop_zero] at e
      rw [if_neg a, if_neg a, e]
      by_cases c : hit d x (rw' d i) = true
      · rw [if_pos c, if_pos c, dfa_Alive_c1, w64s (by omega) (by omega)]
        exact_mod_cast ih _ true (by rw [lset_len]; exact hx)
      · rw [if_neg c, if_neg c, dfa_Alive_c1, w64s (by omega) (by omega)]
        exact_mod_cast ih x b hx
theorem alive_l4 {d : S30} (h : Dr d) : ∀ (m : Nat) (x : List Bool), x.length = d.f1.length → d.f1.length - cnt x + 1 < m → (∀ q, 0 ≤ q → lget x q = true → AL d q) →
    ∃ A, dfa_Alive_l4 5000 d m x true = some A ∧ A.length = d.f1.length ∧ LE x A ∧ (∀ q, 0 ≤ q → lget A q = true → AL d q) ∧ ∀ j : Nat, j < d.f1.length → hit d A (rw' d j) = true → lget A (j : Int) = true
  | m + 1, x, hx, hm, hq => by
    have hn := h.n2
    rw [dfa_Alive_l4.eq_2, if_pos rfl]
    have e := alive_l3 h (dfa_Alive_l4 5000 d m) d.f1.length 0 5000 x false (by omega) (by omega) hx
    rw [Int.natCast_zero] at e
    rw [e]
    have hp : (aps d d.f1.length 0 (x, false)).1.length = x.length := aps_len d _ _ (x, false)
    have hle : LE x (aps d d.f1.length 0 (x, false)).1 := aps_le d.f1.length 0 (x, false) (by omega) hx
    have hsn := aps_snd h d.f1.length 0 (x, false) (by omega) hx hq
    by_cases q : (aps d d.f1.length 0 (x, false)).2 = true
    · rw [q]
      rcases aps_cnt (d := d) d.f1.length 0 (x, false) (by omega) hx with r | ⟨_, r⟩
      · rw [r] at q; cases q
      · have r' : cnt x < cnt (aps d d.f1.length 0 (x, false)).1 := r
        have hc := cnt_le_len (hp.trans hx)
        obtain ⟨A, a1, a2, a3, a4, a5⟩ := alive_l4 h m _ (hp.trans hx) (by omega) hsn
        exact ⟨A, a1, a2, hle.trans a3, a4, a5⟩
    · have q' : (aps d d.f1.length 0 (x, false)).2 = false := by simpa using q
      obtain ⟨k1, k2⟩ := aps_closed d d.f1.length 0 x q'
      rw [q', k1]
      cases m with
      | zero => omega
      | succ m =>
        rw [dfa_Alive_l4.eq_2, if_neg (by decide), dfa_Alive_c0]
        exact ⟨x, rfl, hx, LE.refl x, hq, fun j hj hh => k2 j (by omega) (by omega) hh⟩
theorem alive_l6 {d : S30} (h : Dr d) : ∀ (m i fuel : Nat) (x : List Bool), i + m = d.f1.length → m < fuel → x.length = d.f1.length → (∀ j : Nat, j < i → lget x (j : Int) = decide (0 ≤ mk d j)) →
    ∃ y : List Bool, dfa_Alive_l6 5000 d fuel x (i : Int) = dfa_Alive_c5 5000 d y ∧ y.length = d.f1.length ∧ ∀ j : Nat, j < d.f1.length → lget y (j : Int) = decide (0 ≤ mk d j)
  | 0, i, f + 1, x, hi, _, hx, hq => by
    rw [dfa_Alive_l6.eq_2, if_neg (by simp; omega)]
    exact ⟨x, rfl, hx, fun j hj => hq j (by omega)⟩
  | m + 1, i, f + 1, x, hi, hf, hx, hq => by
    have hn := h.n2
    rw [dfa_Alive_l6.eq_2, if_pos (by simp; omega), mark_eq, Option.bind_some, if_pos ⟨by omega, by omega⟩, w64s (by omega) (by omega)]
    have ih := alive_l6 h m (i + 1) f (lset x (i : Int) (decide (0 ≤ mk d i))) (by omega) (by omega) (by rw [lset_len]; exact hx) (fun j hj => by
      rw [lget_lsetB x i j _ (by omega) (by omega) (by omega)]
      by_cases e : (j : Int) = (i : Int)
      · rw [if_pos e, e]
      · rw [if_neg e]; exact hq j (by omega))
    exact_mod_cast ih
theorem alive_eq {d : S30} (h : Dr d) : ∃ A, dfa_Alive 5000 d = some A ∧ AS d A := by
  have hn := h.n2
  unfold dfa_Alive
  rw [if_pos ⟨by omega, by omega, by omega⟩]
  obtain ⟨y, y1, y2, y3⟩ := alive_l6 h d.f1.length 0 5000 (List.replicate (d.f1.length : Int).toNat false) (by omega) (by omega) (by simp) (fun j hj => by omega)
  rw [Int.natCast_zero] at y1
  have y4 : ∀ q, 0 ≤ q → lget y q = true → AL d q := fun q h0 hg => by
    obtain ⟨j, rfl⟩ := Int.eq_ofNat_of_zero_le h0
    by_cases hj : j < d.f1.length
    · rw [y3 j hj] at hg
      exact ⟨_, .refl, of_decide_eq_true hg⟩
    · have : lget y (j : Int) = false := by
        unfold lget; rw [List.getD, List.getElem?_eq_none (by omega)]; rfl
      rw [this] at hg; cases hg
  obtain ⟨A, a1, a2, a3, a4, a5⟩ := alive_l4 h 5000 y y2 (by omega) y4
  refine ⟨A, by rw [y1]; exact a1, a2, fun q h0 h1 => ⟨a4 q h0, ?_⟩⟩
  rintro ⟨r, k, hr⟩
  have key : ∀ s r, DR d s r → 0 ≤ s → s < (d.f1.length : Int) → lget A r = true → lget A s = true := by
    intro s r k
    induction k with
    | refl => exact fun _ _ hg => hg
    | @step p c k hc k0 ih =>
      intro h0 h1 hg
      have hp := k.in h ⟨h0, h1⟩
      obtain ⟨j, rfl⟩ := Int.eq_ofNat_of_zero_le hp.1
      exact ih h0 h1 (a5 j (by omega) ((hit_iff h (by omega)).2 ⟨c, hc, k0, hg⟩))
  refine key q r k h0 h1 ?_
  have hrr := k.in h ⟨h0, h1⟩
  obtain ⟨j, rfl⟩ := Int.eq_ofNat_of_zero_le hrr.1
  exact a3 _ (by omega) (by rw [y3 j (by omega)]; exact decide_eq_true hr)
/-! The document's answer. -/
theorem mk_in {d : S30} (h : Dr d) {i : Int} (h0 : 0 ≤ i) (h1 : i < (d.f1.length : Int)) : mk d i = lget d.f2 i := by
  have := h.ml
  unfold mk; rw [if_neg (by omega)]
theorem ralive_l3 {d : S30} (h : Dr d) (rec8 : List Bool → Int → Option (List Bool)) (x6 : List Bool) (x7 : Int) (R : List Bool) (hR : R.length = d.f1.length) : ∀ (m k fuel : Nat) (b : Bool), k + m = d.f1.length → m < fuel →
    bosketref08_Alive_l3 5000 rec8 d x6 x7 R fuel b (k : Int) = bosketref08_Alive_c2 5000 rec8 x6 x7 (b || anyB' (fun j => lget R (j : Int) && decide (0 ≤ lget d.f2 (j : Int))) m k)
  | 0, k, f + 1, b, hk, _ => by
    rw [bosketref08_Alive_l3.eq_2, if_neg (by omega), anyB', Bool.or_false]
  | m + 1, k, f + 1, b, hk, hf => by
    have hn := h.n2
    have hm := h.ml
    have ih := fun b => ralive_l3 h rec8 x6 x7 R hR m (k + 1) f b (by omega) (by omega)
    have g : 0 ≤ (k : Int) ∧ (k : Int) < (R.length : Int) := ⟨by omega, by omega⟩
    have g2 : 0 ≤ (k : Int) ∧ (k : Int) < (d.f2.length : Int) := ⟨by omega, by omega⟩
    rw [bosketref08_Alive_l3.eq_2, if_pos g.2, if_pos g, if_pos g2]
    have key : (if b = true then some true else if lget R (k : Int) = true then some (decide (0 ≤ lget d.f2 (k : Int))) else some false) = some (b || (lget R (k : Int) && decide (0 ≤ lget d.f2 (k : Int)))) := by
      cases b <;> cases lget R (k : Int) <;> simp
    rw [key, Option.bind_some, w64s (by omega) (by omega), show (k : Int) + 1 = ((k + 1 : Nat) : Int) by omega, ih, anyB', Bool.or_assoc]
theorem ralive_l4 {d : S30} (h : Dr d) : ∀ (m i fuel : Nat) (x : List Bool), i + m = d.f1.length → m < fuel → x.length = i → (∀ j : Nat, j < i → (lget x (j : Int) = true ↔ AL d j)) →
    ∃ A, bosketref08_Alive_l4 5000 d fuel x (i : Int) = some A ∧ AS d A
  | 0, i, f + 1, x, hi, _, hx, hq => by
    rw [bosketref08_Alive_l4.eq_2, if_neg (by omega), bosketref08_Alive_c0]
    refine ⟨x, rfl, by omega, fun q h0 h1 => ?_⟩
    obtain ⟨j, rfl⟩ := Int.eq_ofNat_of_zero_le h0
    exact hq j (by omega)
  | m + 1, i, f + 1, x, hi, hf, hx, hq => by
    have hn := h.n2
    obtain ⟨R, r1, r2⟩ := rreached_eq h (i : Int)
    have e := ralive_l3 h (bosketref08_Alive_l4 5000 d f) x (i : Int) R r2.1 d.f1.length 0 5000 false (by omega) (by omega)
    rw [Int.natCast_zero] at e
    rw [bosketref08_Alive_l4.eq_2, if_pos (by omega), r1, Option.bind_some, e, Bool.false_or, bosketref08_Alive_c2, if_pos (by simp; omega), bosketref08_Alive_c1, w64s (by omega) (by omega)]
    have hval : anyB' (fun j => lget R (j : Int) && decide (0 ≤ lget d.f2 (j : Int))) d.f1.length 0 = true ↔ AL d i := by
      rw [anyB_iff]
      constructor
      · rintro ⟨j, _, h2, h3⟩
        simp only [Bool.and_eq_true, decide_eq_true_eq] at h3
        exact ⟨j, ((r2.2 j (by omega) (by omega)).1 h3.1).2, by rw [mk_in h (by omega) (by omega)]; exact h3.2⟩
      · rintro ⟨q, k, hm⟩
        have hs : 0 ≤ (i : Int) ∧ (i : Int) < (d.f1.length : Int) := ⟨by omega, by omega⟩
        have hqr := k.in h hs
        obtain ⟨j, rfl⟩ := Int.eq_ofNat_of_zero_le hqr.1
        rw [mk_in h (by omega) (by omega)] at hm
        exact ⟨j, by omega, by omega, by simp only [Bool.and_eq_true, decide_eq_true_eq]; exact ⟨(r2.2 j (by omega) (by omega)).2 ⟨hs, k⟩, hm⟩⟩
    have ih := ralive_l4 h m (i + 1) f (x ++ [anyB' (fun j => lget R (j : Int) && decide (0 ≤ lget d.f2 (j : Int))) d.f1.length 0]) (by omega) (by omega) (by simp; omega) (fun j hj => by
      by_cases q : j < i
      · have : lget (x ++ [anyB' (fun j => lget R (j : Int) && decide (0 ≤ lget d.f2 (j : Int))) d.f1.length 0]) (j : Int) = lget x (j : Int) := by
          rw [lget_lt _ j (by simp; omega), lget_lt x j (by omega), List.getElem_append_left]
        rw [this]; exact hq j q
      · obtain rfl : j = i := by omega
        have : lget (x ++ [anyB' (fun j => lget R (j : Int) && decide (0 ≤ lget d.f2 (j : Int))) d.f1.length 0]) (j : Int) = anyB' (fun j => lget R (j : Int) && decide (0 ≤ lget d.f2 (j : Int))) d.f1.length 0 := by
          rw [lget_lt _ j (by simp; omega), List.getElem_append_right (by omega)]; simp
        rw [this]; exact hval)
    exact_mod_cast ih
theorem ralive_eq {d : S30} (h : Dr d) : ∃ A, bosketref08_Alive 5000 d = some A ∧ AS d A := by
  have hn := h.n2
  exact ralive_l4 h d.f1.length 0 5000 [] (by omega) (by omega) rfl (fun j hj => by omega)
/-! Trimmed. -/
def tr (a : List Bool) (x : Int) : Int := if 0 ≤ x ∧ lget a x = false then -1 else x
/-- What is left. -/
def TRM (d : S30) (a : List Bool) : S30 := S30.mk d.f0 (d.f1.map fun r => r.map (tr a)) d.f2
theorem iget_lt (l : List Int) (i : Nat) (h : i < l.length) : lget l (i : Int) = l[i] := lget_lt l i h
theorem trim_l4 {d : S30} (rec12 : List (List Int) → Int → Option S30) (a : List Bool) (acc : List (List Int)) (x11 : Int) (t18 : List Int) (ht : ∀ q ∈ t18, q < (a.length : Int)) (hz : t18.length ≤ 1000) : ∀ (m c fuel : Nat), c + m = t18.length → m < fuel →
    dfa_Trim_l4 5000 rec12 a acc x11 t18 fuel ((t18.take c).map (tr a) ++ t18.drop c) (c : Int) = dfa_Trim_c2 5000 rec12 acc x11 (t18.map (tr a))
  | 0, c, f + 1, hc, _ => by
    rw [dfa_Trim_l4.eq_2, if_neg (by omega), List.take_of_length_le (by omega), List.drop_of_length_le (by omega), List.append_nil]
  | m + 1, c, f + 1, hc, hf => by
    have hc' : c < t18.length := by omega
    have hq := ht _ (List.getElem_mem hc')
    have hlen : ((t18.take c).map (tr a) ++ t18.drop c).length = t18.length := by simp; omega
    have hget : lget ((t18.take c).map (tr a) ++ t18.drop c) (c : Int) = t18[c] := by
      rw [iget_lt _ c (by omega), List.getElem_append_right (by simp; omega)]
      simp [show c - min c t18.length = 0 by omega]
    have hset : ∀ v, lset ((t18.take c).map (tr a) ++ t18.drop c) (c : Int) v = (t18.take c).map (tr a) ++ (v :: t18.drop (c + 1)) := fun v => by
      unfold lset
      rw [Int.toNat_natCast, List.set_append_right _ _ (by simp; omega), show c - ((t18.take c).map (tr a)).length = 0 by simp; omega, List.drop_eq_getElem_cons hc', List.set_cons_zero]
    have ih := trim_l4 (d := d) rec12 a acc x11 t18 ht hz m (c + 1) f (by omega) (by omega)
    have hnext : (t18.take (c + 1)).map (tr a) ++ t18.drop (c + 1) = (t18.take c).map (tr a) ++ (tr a t18[c] :: t18.drop (c + 1)) := by
      rw [← List.take_append_getElem hc', List.map_append, List.append_assoc]; rfl
    rw [hnext] at ih
    have g : 0 ≤ (c : Int) ∧ (c : Int) < (((t18.take c).map (tr a) ++ t18.drop c).length : Int) := ⟨by omega, by omega⟩
    rw [dfa_Trim_l4.eq_2, if_pos (by omega), if_pos g, hget, if_pos g]
    unfold tr at ih
    by_cases b : 0 ≤ t18[c]
    · rw [if_pos b, if_pos hq, if_pos ⟨b, hq⟩, Option.bind_some]
      cases e : lget a t18[c] with
      | false =>
        rw [if_pos ⟨b, e⟩] at ih
        rw [if_pos (by decide), hset, dfa_Trim_c3, w64s (by omega) (by omega)]
        exact_mod_cast ih
      | true =>
        rw [if_neg (by rw [e]; simp), ← List.drop_eq_getElem_cons hc'] at ih
        rw [if_neg (by decide), dfa_Trim_c3, w64s (by omega) (by omega)]
        exact_mod_cast ih
    · rw [if_neg (fun k => b k.1), ← List.drop_eq_getElem_cons hc'] at ih
      rw [if_neg b, Option.bind_some, if_neg (by decide), dfa_Trim_c3, w64s (by omega) (by omega)]
      exact_mod_cast ih
theorem trim_l5 {d : S30} (h : Dr d) (a : List Bool) (ha : a.length = d.f1.length) : ∀ (m i fuel : Nat), i + m = d.f1.length → m < fuel →
    dfa_Trim_l5 5000 d a d.f2 fuel ((d.f1.take i).map fun r => r.map (tr a)) (i : Int) = some (TRM d a)
  | 0, i, f + 1, hi, _ => by
    rw [dfa_Trim_l5.eq_2, if_neg (by omega), dfa_Trim_c0, List.take_of_length_le (by omega)]; rfl
  | m + 1, i, f + 1, hi, hf => by
    have hn := h.n2
    have hi' : i < d.f1.length := by omega
    have hr : d.f1[i] ∈ d.f1 := List.getElem_mem hi'
    have h256 := h.row256 _ hr
    have ih := trim_l5 h a ha m (i + 1) f (by omega) (by omega)
    rw [dfa_Trim_l5.eq_2, if_pos (by omega), if_pos ⟨by omega, by omega⟩, lget_lt _ i hi']
    unfold slices_Clone_int_int__own
    rw [if_pos (by simp; omega), Option.bind_some, List.nil_append]
    have e := trim_l4 (d := d) (dfa_Trim_l5 5000 d a d.f2 f) a ((d.f1.take i).map fun r => r.map (tr a)) (i : Int) d.f1[i] (fun q hq => by rw [ha]; exact (h.ent _ hr q hq).2) (by omega) d.f1[i].length 0 5000 (by omega) (by omega)
    rw [Int.natCast_zero, List.take_zero, List.drop_zero, List.map_nil, List.nil_append] at e
    rw [e, dfa_Trim_c2, if_pos (by simp; omega), dfa_Trim_c1, w64s (by omega) (by omega)]
    have : (d.f1.take (i + 1)).map (fun r => r.map (tr a)) = (d.f1.take i).map (fun r => r.map (tr a)) ++ [d.f1[i].map (tr a)] := by
      rw [← List.take_append_getElem hi', List.map_append]; rfl
    rw [this] at ih
    exact_mod_cast ih
theorem trim_eq {d : S30} (h : Dr d) : ∃ A, AS d A ∧ dfa_Trim 5000 d = some (TRM d A) := by
  obtain ⟨A, a1, a2⟩ := alive_eq h
  have hn := h.n2
  have hm := h.ml
  refine ⟨A, a2, ?_⟩
  unfold dfa_Trim
  rw [a1, Option.bind_some]
  unfold slices_Clone_int_int_
  rw [if_pos (by simp; omega), Option.bind_some, List.nil_append]
  have := trim_l5 h A a2.1 d.f1.length 0 5000 (by omega) (by omega)
  rw [Int.natCast_zero, List.take_zero] at this
  exact this
theorem rtrim_l4 {d : S30} (h : Dr d) (rec14 : List (List Int) → Int → Option S30) (a : List Bool) (ha : a.length = d.f1.length) (acc : List (List Int)) (i : Nat) (hi : i < d.f1.length) : ∀ (m c fuel : Nat), c + m = (rw' d i).length → m < fuel →
    bosketref08_Trim_l4 5000 rec14 d a acc (i : Int) fuel (((rw' d i).take c).map (tr a)) (c : Int) = bosketref08_Trim_c2 5000 rec14 acc (i : Int) ((rw' d i).map (tr a))
  | 0, c, f + 1, hc, _ => by
    have hcn : ¬ (c : Int) < ((lget d.f1 (i : Int)).length : Int) := by
      have : ¬ (c : Int) < ((rw' d i).length : Int) := by omega
      exact this
    rw [bosketref08_Trim_l4.eq_2, if_pos ⟨by omega, by omega⟩, if_neg hcn, List.take_of_length_le (by omega)]
  | m + 1, c, f + 1, hc, hf => by
    have hc' : c < (rw' d i).length := by omega
    have hcI : (c : Int) < ((lget d.f1 (i : Int)).length : Int) := by
      have : (c : Int) < ((rw' d i).length : Int) := by omega
      exact this
    have he := h.entk (i := (i : Int)) (by omega) (by omega) (c := (c : Int)) (by omega) hcI
    have h256 : (rw' d i).length ≤ 256 := h.row256 _ (mem_lget (l := d.f1) (i := (i : Int)) (by omega) (by omega))
    have ge : lget (lget d.f1 (i : Int)) (c : Int) = (rw' d i)[c] := lget_lt (rw' d i) c hc'
    have g : 0 ≤ (i : Int) ∧ (i : Int) < (d.f1.length : Int) := ⟨by omega, by omega⟩
    have ih := rtrim_l4 h rec14 a ha acc i hi m (c + 1) f (by omega) (by omega)
    have hnext : ((rw' d i).take (c + 1)).map (tr a) = ((rw' d i).take c).map (tr a) ++ [tr a (rw' d i)[c]] := by
      rw [← List.take_append_getElem hc', List.map_append]; rfl
    rw [hnext] at ih
    rw [bosketref08_Trim_l4.eq_2, if_pos g, if_pos hcI, if_pos g, if_pos ⟨by omega, hcI⟩]
    unfold bosketref08_Trim_c3
    have hlen : ∀ v : Int, (((rw' d i).take c).map (tr a) ++ [v]).length * 8 ≤ 140737488355328 := fun v => by simp; omega
    rw [ge] at he ⊢
    unfold tr at ih
    by_cases b : 0 ≤ (rw' d i)[c]
    · rw [if_pos b, if_pos ⟨b, by omega⟩, Option.bind_some, w64s (by omega) (by omega)]
      cases e : lget a (rw' d i)[c] with
      | false =>
        rw [if_pos ⟨b, e⟩] at ih
        rw [if_pos (by decide), if_pos (hlen _)]
        exact_mod_cast ih
      | true =>
        rw [if_neg (by rw [e]; simp)] at ih
        rw [if_neg (by decide), if_pos (hlen _)]
        exact_mod_cast ih
    · rw [if_neg (fun k => b k.1)] at ih
      rw [if_neg b, Option.bind_some, if_neg (by decide), if_pos (hlen _), w64s (by omega) (by omega)]
      exact_mod_cast ih
theorem rtrim_l5 {d : S30} (h : Dr d) (a : List Bool) (ha : a.length = d.f1.length) : ∀ (m i fuel : Nat), i + m = d.f1.length → m < fuel →
    bosketref08_Trim_l5 5000 d a fuel ((d.f1.take i).map fun r => r.map (tr a)) (i : Int) = some (TRM d a)
  | 0, i, f + 1, hi, _ => by
    rw [bosketref08_Trim_l5.eq_2, if_neg (by omega), bosketref08_Trim_c0, List.take_of_length_le (by omega)]; rfl
  | m + 1, i, f + 1, hi, hf => by
    have hn := h.n2
    have hi' : i < d.f1.length := by omega
    have h256 : (rw' d i).length ≤ 256 := h.row256 _ (mem_lget (l := d.f1) (i := (i : Int)) (by omega) (by omega))
    have ih := rtrim_l5 h a ha m (i + 1) f (by omega) (by omega)
    have e := rtrim_l4 h (bosketref08_Trim_l5 5000 d a f) a ha ((d.f1.take i).map fun r => r.map (tr a)) i hi' (rw' d i).length 0 5000 (by omega) (by omega)
    rw [Int.natCast_zero, List.take_zero, List.map_nil] at e
    rw [bosketref08_Trim_l5.eq_2, if_pos (by omega), e, bosketref08_Trim_c2, if_pos (by simp; omega), bosketref08_Trim_c1, w64s (by omega) (by omega)]
    have : (d.f1.take (i + 1)).map (fun r => r.map (tr a)) = (d.f1.take i).map (fun r => r.map (tr a)) ++ [(rw' d i).map (tr a)] := by
      rw [← List.take_append_getElem hi', List.map_append, show rw' d i = d.f1[i] from lget_lt _ i hi']; rfl
    rw [this] at ih
    exact_mod_cast ih
theorem rtrim_eq {d : S30} (h : Dr d) : ∃ A, AS d A ∧ bosketref08_Trim 5000 d = some (TRM d A) := by
  obtain ⟨A, a1, a2⟩ := ralive_eq h
  have hn := h.n2
  have hm := h.ml
  refine ⟨A, a2, ?_⟩
  unfold bosketref08_Trim
  rw [a1, Option.bind_some, if_pos (by simp; omega)]
  have := rtrim_l5 h A a2.1 d.f1.length 0 5000 (by omega) (by omega)
  rw [Int.natCast_zero, List.take_zero] at this
  exact this
/-! Alike. -/
end Go.Avl.T5
/- Machines in one state: put in order. -/
namespace Go.Avl.T5
open Go Go.RowKit Go.Proofs Go.Avl
set_option linter.all false
set_option maxRecDepth 10000

/-- The place of a number, from a place on; -1. -/
def plc : List Int → Int → Int → Int
  | [], _, _ => -1
  | y :: l, x, i => if y = x then i else plc l x (i + 1)
def pl (l : List Int) (x : Int) : Int := plc l x 0
theorem plc_not {x : Int} : ∀ (l : List Int) (i : Int), x ∉ l → plc l x i = -1
  | [], _, _ => rfl
  | y :: l, i, h => by
    rw [plc, if_neg (fun e => h (by simp [e])), plc_not l (i + 1) (fun e => h (by simp [e]))]
theorem plc_app {x : Int} (m : List Int) : ∀ (l : List Int) (i : Int), x ∈ l → plc (l ++ m) x i = plc l x i
  | y :: l, i, h => by
    rw [List.cons_append, plc, plc]
    by_cases e : y = x
    · rw [if_pos e, if_pos e]
    · rw [if_neg e, if_neg e, plc_app m l (i + 1) ((List.mem_cons.1 h).resolve_left fun k => e k.symm)]
theorem plc_last {x : Int} : ∀ (l : List Int) (i : Int), x ∉ l → plc (l ++ [x]) x i = i + l.length
  | [], i, _ => by simp [plc]
  | y :: l, i, h => by
    rw [List.cons_append, plc, if_neg (fun e => h (by simp [e])), plc_last l (i + 1) (fun e => h (by simp [e])), List.length_cons]; omega
theorem plc_other {x y : Int} (e : y ≠ x) : ∀ (l : List Int) (i : Int), plc (l ++ [y]) x i = plc l x i
  | [], i => by simp [plc, e]
  | z :: l, i => by rw [List.cons_append, plc, plc, plc_other e l (i + 1)]
theorem plc_get {x : Int} : ∀ (l : List Int) (i : Int), x ∈ l → ∃ j : Nat, j < l.length ∧ plc l x i = i + j ∧ lget l (j : Int) = x
  | y :: l, i, h => by
    by_cases e : y = x
    · exact ⟨0, by simp, by rw [plc, if_pos e]; omega, e⟩
    · obtain ⟨j, j1, j2, j3⟩ := plc_get l (i + 1) ((List.mem_cons.1 h).resolve_left fun k => e k.symm)
      refine ⟨j + 1, by simp; omega, by rw [plc, if_neg e, j2]; omega, ?_⟩
      rw [lget_lt _ _ (by simp; omega)]
      rw [lget_lt _ _ j1] at j3
      simpa using j3
theorem pl_not {l : List Int} {x : Int} (h : x ∉ l) : pl l x = -1 := plc_not l 0 h
theorem pl_get {l : List Int} {x : Int} (h : x ∈ l) : ∃ j : Nat, j < l.length ∧ pl l x = j ∧ lget l (j : Int) = x := by
  obtain ⟨j, j1, j2, j3⟩ := plc_get l 0 h
  exact ⟨j, j1, by unfold pl; omega, j3⟩
theorem pl_app {l : List Int} {x : Int} (m : List Int) (h : x ∈ l) : pl (l ++ m) x = pl l x := plc_app m l 0 h
theorem place_l (l : List Int) (x : Int) (hl : l.length ≤ 1000) : ∀ (m i fuel : Nat), i + m = l.length → m < fuel → bosketref08_place_l1 5000 l x fuel (i : Int) = some (plc (l.drop i) x i)
  | 0, i, f + 1, hi, _ => by
    rw [bosketref08_place_l1.eq_2, if_neg (by omega), bosketref08_place_c0, List.drop_of_length_le (by omega)]; rfl
  | m + 1, i, f + 1, hi, hf => by
    have hi' : i < l.length := by omega
    have ih := place_l l x hl m (i + 1) f (by omega) (by omega)
    rw [bosketref08_place_l1.eq_2, if_pos (by omega), if_pos ⟨by omega, by omega⟩, lget_lt l i hi', List.drop_eq_getElem_cons hi', plc, w64s (by omega) (by omega)]
    split
    · rfl
    · exact_mod_cast ih
theorem place_eq (l : List Int) (x : Int) (hl : l.length ≤ 1000) : bosketref08_place 5000 l x = some (pl l x) := by
  have := place_l l x hl l.length 0 5000 (by omega) (by omega)
  rw [List.drop_zero] at this
  exact_mod_cast this
/-- One more is met. -/
def addO (L : List Int) (x : Int) : List Int := if 0 ≤ x ∧ x ∉ L then L ++ [x] else L
def ordR (L : List Int) (r : List Int) : List Int := r.foldl addO L
theorem addO_pre (L : List Int) (x : Int) : ∃ m, addO L x = L ++ m := by
  unfold addO; split
  · exact ⟨[x], rfl⟩
  · exact ⟨[], by simp⟩
theorem ordR_pre : ∀ (r L : List Int), ∃ m, ordR L r = L ++ m
  | [], L => ⟨[], by simp [ordR]⟩
  | x :: r, L => by
    obtain ⟨m, hm⟩ := addO_pre L x
    obtain ⟨k, hk⟩ := ordR_pre r (addO L x)
    refine ⟨m ++ k, ?_⟩
    show ordR (addO L x) r = _
    rw [hk, hm, List.append_assoc]
theorem addO_mem {L : List Int} {x : Int} (h : 0 ≤ x) : x ∈ addO L x := by
  unfold addO; split
  · simp
  · rename_i c
    by_cases q : x ∈ L
    · exact q
    · exact absurd ⟨h, q⟩ c
theorem ordR_mem : ∀ (r L : List Int) {x : Int}, x ∈ r → 0 ≤ x → x ∈ ordR L r
  | y :: r, L, x, h, h0 => by
    show x ∈ ordR (addO L y) r
    rcases List.mem_cons.1 h with rfl | h
    · obtain ⟨m, hm⟩ := ordR_pre r (addO L x)
      rw [hm]; exact List.mem_append_left _ (addO_mem h0)
    · exact ordR_mem r _ h h0
theorem ordR_from : ∀ (r L : List Int) {x : Int}, x ∈ ordR L r → x ∈ L ∨ (x ∈ r ∧ 0 ≤ x)
  | [], L, x, h => .inl h
  | y :: r, L, x, h => by
    have h' : x ∈ ordR (addO L y) r := h
    rcases ordR_from r _ h' with k | k
    · unfold addO at k
      split at k
      · rename_i c
        rcases List.mem_append.1 k with k | k
        · exact .inl k
        · have : x = y := by simpa using k
          subst this
          exact .inr ⟨by simp, c.1⟩
      · exact .inl k
    · exact .inr ⟨by simp [k.1], k.2⟩
theorem addO_nodup {L : List Int} {x : Int} (h : L.Nodup) : (addO L x).Nodup := by
  unfold addO; split
  · rename_i c
    rw [List.nodup_append]
    refine ⟨h, by simp, fun a ha b hb => ?_⟩
    have : b = x := by simpa using hb
    subst this
    intro e; subst e; exact c.2 ha
  · exact h
theorem ordR_nodup : ∀ (r L : List Int), L.Nodup → (ordR L r).Nodup
  | [], _, h => h
  | x :: r, L, h => ordR_nodup r _ (addO_nodup h)
theorem nodup_len : ∀ (n : Nat) (L : List Int), L.Nodup → (∀ x ∈ L, 0 ≤ x ∧ x < (n : Int)) → L.length ≤ n
  | 0, L, _, h => by
    cases L with
    | nil => simp
    | cons x L => have := h x (by simp); omega
  | n + 1, L, hn, h => by
    have ih := nodup_len n (L.erase (n : Int)) (hn.erase _) (fun x hx => by
      rw [hn.mem_erase_iff] at hx
      have := h x hx.2
      omega)
    by_cases q : (n : Int) ∈ L
    · rw [List.length_erase_of_mem q] at ih; omega
    · rw [List.erase_of_not_mem q] at ih; omega
/-- The states in the order in which they are met. -/
def obs (d : S30) : Nat → List Int → Nat → List Int
  | 0, L, _ => L
  | m + 1, L, i => if i < L.length then obs d m (ordR L (rw' d (lget L (i : Int)))) (i + 1) else L
def OL (d : S30) : List Int := obs d 5000 [0] 0
/-- What is put in order. -/
def OD (d : S30) (L : List Int) : S30 := S30.mk d.f0 (L.map fun q => (rw' d q).map (pl L)) (L.map fun q => lget d.f2 q)
def ORD (d : S30) : S30 := OD d (OL d)
structure OI (d : S30) (L : List Int) (i : Nat) : Prop where
  nd : L.Nodup
  rng : ∀ x ∈ L, 0 ≤ x ∧ x < (d.f1.length : Int)
  rch : ∀ x ∈ L, DR d 0 x
  cls : ∀ j : Nat, j < i → ∀ x ∈ rw' d (lget L (j : Int)), 0 ≤ x → x ∈ L
  le : i ≤ L.length
  hd : ∃ m, L = 0 :: m
theorem OI.len {d : S30} {L : List Int} {i : Nat} (h : OI d L i) : L.length ≤ d.f1.length := nodup_len _ L h.nd h.rng
theorem OI.start {d : S30} (h : Dr d) : OI d [0] 0 :=
  ⟨by simp, fun x hx => by have := h.n1; have e : x = 0 := by simpa using hx
                           subst e; omega, fun x hx => by have e : x = 0 := by simpa using hx
                                                          subst e; exact .refl, fun j hj => by omega, by simp, ⟨[], rfl⟩⟩
theorem lget_pre {L m : List Int} {j : Nat} (h : j < L.length) : lget (L ++ m) (j : Int) = lget L (j : Int) := by
  rw [lget_lt _ j (by simp; omega), lget_lt L j h, List.getElem_append_left]
theorem OI.next {d : S30} (hd : Dr d) {L : List Int} {i : Nat} (h : OI d L i) (hi : i < L.length) : OI d (ordR L (rw' d (lget L (i : Int)))) (i + 1) := by
  obtain ⟨m, hm⟩ := ordR_pre (rw' d (lget L (i : Int))) L
  have hmem : lget L (i : Int) ∈ L := mem_lget (by omega) (by omega)
  have hq := h.rng _ hmem
  refine ⟨ordR_nodup _ _ h.nd, fun x hx => ?_, fun x hx => ?_, fun j hj x hx h0 => ?_, by rw [hm]; simp; omega, ?_⟩
  · rcases ordR_from _ _ hx with k | k
    · exact h.rng x k
    · exact ⟨k.2, row_lt hd hq.1 hq.2 x k.1⟩
  · rcases ordR_from _ _ hx with k | k
    · exact h.rch x k
    · obtain ⟨c, hc, rfl⟩ := lget_mem k.1
      exact .step (h.rch _ hmem) (by omega) k.2
  · have hjL : j < L.length := by have := h.le; omega
    by_cases e : j = i
    · subst e
      rw [hm, lget_pre hjL] at hx
      exact ordR_mem _ _ hx h0
    · rw [hm, lget_pre hjL] at hx
      rw [hm]
      exact List.mem_append_left _ (h.cls j (by omega) x hx h0)
  · obtain ⟨k, hk⟩ := h.hd
    refine ⟨k ++ m, ?_⟩
    rw [hm, hk, List.cons_append]
theorem obs_OI {d : S30} (hd : Dr d) : ∀ (m : Nat) (L : List Int) (i : Nat), OI d L i → d.f1.length < i + m → OI d (obs d m L i) (obs d m L i).length
  | 0, L, i, h, hm => by
    have := h.len
    have := h.le
    omega
  | m + 1, L, i, h, hm => by
    rw [obs]
    by_cases a : i < L.length
    · rw [if_pos a]
      exact obs_OI hd m _ (i + 1) (h.next hd a) (by omega)
    · rw [if_neg a]
      have := h.le
      have e : i = L.length := by omega
      rw [← e]; exact h
theorem OL_OI {d : S30} (hd : Dr d) : OI d (OL d) (OL d).length := obs_OI hd 5000 [0] 0 (OI.start hd) (by have := hd.n2; omega)
/-- Rows of what stands closed keep their places. -/
theorem row_pl {L m : List Int} {r : List Int} (h : ∀ x ∈ r, -1 ≤ x) (hc : ∀ x ∈ r, 0 ≤ x → x ∈ L) (hL : ∀ x ∈ L ++ m, 0 ≤ x) : r.map (pl (L ++ m)) = r.map (pl L) := by
  apply List.map_congr_left
  intro x hx
  by_cases a : 0 ≤ x
  · exact pl_app m (hc x hx a)
  · rw [pl_not (fun k => a (hL x k)), pl_not (fun k => a (hL x (by simp [k])))]
theorem row_ge {d : S30} (h : Dr d) {p : Int} (h0 : 0 ≤ p) (h1 : p < (d.f1.length : Int)) : ∀ q ∈ rw' d p, -1 ≤ q := fun q hq => (h.ent _ (mem_lget h0 h1) q hq).1
/-! The inner walks. -/
theorem order_l5 {d : S30} (h : Dr d) (rec23 : List Int → List (List Int) → List Int → List Int → Int → Option S30) (x17 : List (List Int)) (x19 : List Int) (L0 : List Int) (i : Nat) (q : Int) (hq : lget L0 (i : Int) = q) (hq0 : 0 ≤ q ∧ q < (d.f1.length : Int)) :
    ∀ (m c fuel : Nat) (nb L acc : List Int), c + m = (rw' d q).length → m < fuel → nb.length = d.f1.length → (∀ x : Int, 0 ≤ x → x < (d.f1.length : Int) → lget nb x = pl L x) → (∀ x ∈ L, 0 ≤ x) → L.length + m ≤ 100000 → acc.length = c →
    ∃ nb', dfa_Order_l5 5000 rec23 d x17 x19 L0 (i : Int) fuel nb L acc (c : Int) = dfa_Order_c2 5000 rec23 d x17 x19 (i : Int) nb' (ordR L ((rw' d q).drop c)) (acc ++ ((rw' d q).drop c).map (pl (ordR L ((rw' d q).drop c)))) ∧
      nb'.length = d.f1.length ∧ (∀ x : Int, 0 ≤ x → x < (d.f1.length : Int) → lget nb' x = pl (ordR L ((rw' d q).drop c)) x)
  | 0, c, f + 1, nb, L, acc, hc, _, hn, hp, hL, hz, ha => by
    have hcn : ¬ (c : Int) < ((lget d.f1 q).length : Int) := by
      have : ¬ (c : Int) < ((rw' d q).length : Int) := by omega
      exact this
    rw [dfa_Order_l5.eq_2, hq, if_neg hcn, List.drop_of_length_le (by omega)]
    exact ⟨nb, by simp [ordR], hn, hp⟩
  | m + 1, c, f + 1, nb, L, acc, hc, hf, hn, hp, hL, hz, ha => by
    have hc' : c < (rw' d q).length := by omega
    have hcI : (c : Int) < ((lget d.f1 q).length : Int) := by
      have : (c : Int) < ((rw' d q).length : Int) := by omega
      exact this
    have he := h.entk hq0.1 hq0.2 (c := (c : Int)) (by omega) hcI
    have h256 : (rw' d q).length ≤ 256 := h.row256 _ (mem_lget hq0.1 hq0.2)
    have hn2 := h.n2
    have ge : lget (lget d.f1 q) (c : Int) = (rw' d q)[c] := lget_lt (rw' d q) c hc'
    have hmx : (rw' d q)[c] ∈ rw' d q := List.getElem_mem hc'
    rw [dfa_Order_l5.eq_2, hq, if_pos hcI, if_pos ⟨by omega, hcI⟩]
    unfold dfa_Order_c4 dfa_Order_c3
    rw [hq, ge, List.drop_eq_getElem_cons hc', List.map_cons]
    rw [ge] at he
    have hd2 : ordR L ((rw' d q)[c] :: (rw' d q).drop (c + 1)) = ordR (addO L (rw' d q)[c]) ((rw' d q).drop (c + 1)) := rfl
    rw [hd2]
    generalize hto : (rw' d q)[c] = to at he
    have hlen : ∀ v : Int, (acc ++ [v]).length * 8 ≤ 140737488355328 := fun v => by simp; omega
    have stab : ∀ L1 : List Int, (∀ x ∈ L1, 0 ≤ x) → (0 ≤ to → to ∈ L1) → pl (ordR L1 ((rw' d q).drop (c + 1))) to = pl L1 to := by
      intro L1 h1 h2
      obtain ⟨k, hk⟩ := ordR_pre ((rw' d q).drop (c + 1)) L1
      by_cases a : 0 ≤ to
      · rw [hk]; exact pl_app k (h2 a)
      · rw [pl_not (fun z => a (h1 _ z)), pl_not (fun z => ?_)]
        rcases ordR_from _ _ z with z | z
        · exact a (h1 _ z)
        · exact a z.2
    by_cases a : 0 ≤ to
    · have g : 0 ≤ to ∧ to < (nb.length : Int) := ⟨a, by omega⟩
      rw [if_pos a, if_pos g, hp to a (by omega), Option.bind_some]
      by_cases b : to ∈ L
      · obtain ⟨j, j1, j2, j3⟩ := pl_get b
        have hadd : addO L to = L := by unfold addO; rw [if_neg (fun k => k.2 b)]
        rw [if_neg (by rw [j2]; simp), if_pos a, if_pos g, if_pos (hlen _), w64s (by omega) (by omega), hadd, stab L hL (fun _ => b)]
        obtain ⟨nb', n1, n2, n3⟩ := order_l5 h rec23 x17 x19 L0 i q hq hq0 m (c + 1) f nb L (acc ++ [pl L to]) (by omega) (by omega) hn hp hL (by omega) (by simp [ha])
        refine ⟨nb', ?_, n2, n3⟩
        rw [List.append_assoc] at n1
        exact_mod_cast n1
      · have hadd : addO L to = L ++ [to] := by unfold addO; rw [if_pos ⟨a, b⟩]
        have hpl : pl (L ++ [to]) to = (L.length : Int) := by unfold pl; rw [plc_last L 0 b]; omega
        have hL1 : ∀ x ∈ L ++ [to], 0 ≤ x := fun x hx => by
          rcases List.mem_append.1 hx with k | k
          · exact hL x k
          · have e : x = to := by simpa using k
            subst e; exact a
        have g' : 0 ≤ to ∧ to < ((lset nb to (L.length : Int)).length : Int) := ⟨a, by rw [lset_len]; omega⟩
        have hgetI : ∀ (l : List Int) (i q v : Int), 0 ≤ i → i < (l.length : Int) → 0 ≤ q → lget (lset l i v) q = if q = i then v else lget l q := by
          intro l i q v h0 h1 hq
          unfold lget lset
          rw [List.getD, List.getD, List.getElem?_set]
          by_cases e : i.toNat = q.toNat
          · rw [if_pos e, if_pos (by omega), if_pos (by omega)]; rfl
          · rw [if_neg e, if_neg (by omega)]
        rw [pl_not b, if_pos (by decide), if_pos g, if_pos (by simp; omega), if_pos a, if_pos g', hgetI nb to to _ a (by omega) a, if_pos rfl, if_pos (hlen _), w64s (by omega) (by omega), hadd, stab _ hL1 (fun _ => by simp), hpl]
        obtain ⟨nb', n1, n2, n3⟩ := order_l5 h rec23 x17 x19 L0 i q hq hq0 m (c + 1) f (lset nb to (L.length : Int)) (L ++ [to]) (acc ++ [(L.length : Int)]) (by omega) (by omega) (by rw [lset_len]; exact hn) (fun x h0 h1 => by
          rw [hgetI nb to x _ a (by omega) h0]
          by_cases e : x = to
          · rw [if_pos e, e, hpl]
          · rw [if_neg e, hp x h0 h1]; unfold pl; rw [plc_other (fun k => e k.symm)]) hL1 (by simp; omega) (by simp [ha])
        refine ⟨nb', ?_, n2, n3⟩
        rw [List.append_assoc] at n1
        exact_mod_cast n1
    · have e1 : to = -1 := by omega
      have hadd : addO L to = L := by unfold addO; rw [if_neg (fun k => a k.1)]
      rw [if_neg a, Option.bind_some, if_neg (by decide), if_neg a, if_pos (hlen _), w64s (by omega) (by omega), hadd, stab L hL (fun k => absurd k a), pl_not (fun z => a (hL _ z))]
      obtain ⟨nb', n1, n2, n3⟩ := order_l5 h rec23 x17 x19 L0 i q hq hq0 m (c + 1) f nb L (acc ++ [(-1 : Int)]) (by omega) (by omega) hn hp hL (by omega) (by simp [ha])
      refine ⟨nb', ?_, n2, n3⟩
      rw [List.append_assoc] at n1
      rw [e1]
      exact_mod_cast n1
theorem OD_take {d : S30} (hd : Dr d) {L : List Int} {i : Nat} (h : OI d L i) (hi : i < L.length) (m : List Int) (hm : ordR L (rw' d (lget L (i : Int))) = L ++ m) :
    ((L ++ m).take (i + 1)).map (fun q => (rw' d q).map (pl (L ++ m))) = (L.take i).map (fun q => (rw' d q).map (pl L)) ++ [(rw' d (lget L (i : Int))).map (pl (L ++ m))] := by
  rw [List.take_append_of_le_length (by omega), ← List.take_append_getElem hi, List.map_append, List.map_singleton, lget_lt L i hi]
  congr 1
  apply List.map_congr_left
  intro q hq
  obtain ⟨j, hj, rfl⟩ := List.getElem_of_mem hq
  have hj' : j < i := by simp at hj; omega
  have hjL : j < L.length := by omega
  have e : (L.take i)[j] = lget L (j : Int) := by rw [List.getElem_take, lget_lt L j hjL]
  have hrg := h.rng _ (mem_lget (l := L) (i := (j : Int)) (by omega) (by omega))
  rw [e]
  refine row_pl (row_ge hd hrg.1 hrg.2) (fun x hx h0 => h.cls j hj' x hx h0) fun x hx => ?_
  have := (h.next hd hi).rng x (by rw [hm]; exact hx)
  exact this.1
theorem order_l6 {d : S30} (hd : Dr d) : ∀ (m : Nat) (nb L : List Int) (i : Nat), OI d L i → d.f1.length < i + m → nb.length = d.f1.length → (∀ x : Int, 0 ≤ x → x < (d.f1.length : Int) → lget nb x = pl L x) →
    dfa_Order_l6 5000 d m nb ((L.take i).map fun q => (rw' d q).map (pl L)) ((L.take i).map fun q => lget d.f2 q) L (i : Int) = some (OD d (obs d m L i))
  | 0, nb, L, i, h, hm, _, _ => by
    have := h.len
    have := h.le
    omega
  | m + 1, nb, L, i, h, hm, hn, hp => by
    have hlen := h.len
    have hle := h.le
    have hn2 := hd.n2
    rw [dfa_Order_l6.eq_2, obs]
    by_cases a : i < L.length
    · have hmem : lget L (i : Int) ∈ L := mem_lget (by omega) (by omega)
      have hq := h.rng _ hmem
      have hm2 := hd.ml
      have h256 : (rw' d (lget L (i : Int))).length ≤ 256 := hd.row256 _ (mem_lget hq.1 hq.2)
      have h256' : (lget d.f1 (lget L (i : Int))).length ≤ 256 := h256
      have hnx := h.next hd a
      have hnl := hnx.len
      obtain ⟨k, hk⟩ := ordR_pre (rw' d (lget L (i : Int))) L
      obtain ⟨nb', n1, n2, n3⟩ := order_l5 hd (dfa_Order_l6 5000 d m) ((L.take i).map fun q => (rw' d q).map (pl L)) ((L.take i).map fun q => lget d.f2 q) L i (lget L (i : Int)) rfl hq (rw' d (lget L (i : Int))).length 0 5000 nb L [] (by omega) (by omega) hn hp (fun x hx => (h.rng x hx).1) (by omega) rfl
      rw [Int.natCast_zero, List.drop_zero, List.nil_append] at n1
      rw [List.drop_zero] at n3
      rw [if_pos a, if_pos (by omega), if_pos ⟨by omega, by omega⟩, if_pos hq, if_pos ⟨by omega, by omega, by omega⟩, if_pos ⟨by omega, by omega⟩, if_pos hq, n1]
      unfold dfa_Order_c2 dfa_Order_c1
      rw [hk] at hnx hnl n3 ⊢
      have hgl : lget (L ++ k) (i : Int) = lget L (i : Int) := lget_pre a
      rw [if_pos (by simp; omega), if_pos ⟨by omega, by simp; omega⟩, hgl, if_pos ⟨hq.1, by omega⟩, if_pos (by simp; omega), w64s (by omega) (by omega)]
      have ih := order_l6 hd m nb' (L ++ k) (i + 1) hnx (by omega) n2 n3
      rw [OD_take hd h a k hk] at ih
      have e2 : ((L ++ k).take (i + 1)).map (fun q => lget d.f2 q) = (L.take i).map (fun q => lget d.f2 q) ++ [lget d.f2 (lget L (i : Int))] := by
        rw [List.take_append_of_le_length (by omega), ← List.take_append_getElem a, List.map_append, List.map_singleton, lget_lt L i a]
      rw [e2] at ih
      exact_mod_cast ih
    · rw [if_neg a, if_neg (by omega), dfa_Order_c0]
      have e : i = L.length := by omega
      rw [e, List.take_length]; rfl
theorem lget_neg (N : Nat) (x : Int) (h0 : 0 ≤ x) (h1 : x < (N : Int)) : lget (List.replicate N (-1 : Int)) x = -1 := by
  unfold lget
  rw [List.getD, List.getElem?_replicate, if_pos (by omega)]; rfl
theorem order_l8 {d : S30} (hd : Dr d) : ∀ (m i fuel : Nat), i + m = d.f1.length → m < fuel →
    dfa_Order_l8 5000 d fuel (List.replicate i (-1 : Int) ++ List.replicate m (0 : Int)) (i : Int) = dfa_Order_c7 5000 d (List.replicate d.f1.length (-1 : Int))
  | 0, i, f + 1, hi, _ => by
    rw [dfa_Order_l8.eq_2, if_neg (by simp; omega), show i = d.f1.length by omega]; simp
  | m + 1, i, f + 1, hi, hf => by
    have hn2 := hd.n2
    have ih := order_l8 hd m (i + 1) f (by omega) (by omega)
    rw [dfa_Order_l8.eq_2, if_pos (by simp; omega), if_pos ⟨by omega, by simp; omega⟩, w64s (by omega) (by omega)]
    have e : lset (List.replicate i (-1 : Int) ++ List.replicate (m + 1) (0 : Int)) (i : Int) (-1) = List.replicate (i + 1) (-1 : Int) ++ List.replicate m (0 : Int) := by
      unfold lset
      rw [Int.toNat_natCast, List.set_append_right _ _ (by simp), show i - (List.replicate i (-1 : Int)).length = 0 by simp, List.replicate_succ, List.set_cons_zero, List.replicate_succ', List.append_assoc]; rfl
    rw [e]
    exact_mod_cast ih
theorem order_eq {d : S30} (hd : Dr d) : dfa_Order 5000 d = some (ORD d) := by
  have h1 := hd.n1
  have h2 := hd.n2
  unfold dfa_Order
  rw [if_pos ⟨by omega, by omega, by omega⟩, Int.toNat_natCast]
  have e := order_l8 hd d.f1.length 0 5000 (by omega) (by omega)
  rw [Int.natCast_zero, List.replicate_zero, List.nil_append] at e
  rw [e, dfa_Order_c7, if_neg (by omega), if_pos ⟨by omega, by simp; omega⟩]
  have := order_l6 hd 5000 (lset (List.replicate d.f1.length (-1 : Int)) 0 0) [0] 0 (OI.start hd) (by omega) (by rw [lset_len, List.length_replicate]) (fun x h0 hx => by
    unfold lset
    by_cases q : x = 0
    · subst q
      unfold lget pl plc
      rw [List.getD, List.getElem?_set_self (by simp; omega)]; rfl
    · have hne : (0 : Int).toNat ≠ x.toNat := by omega
      have e2 : pl [0] x = -1 := pl_not (by simpa using q)
      refine Eq.trans ?_ ((lget_neg d.f1.length x h0 hx).trans e2.symm)
      unfold lget
      rw [List.getD, List.getD, List.getElem?_set_ne hne])
  exact this
/-! The document's answer. -/
theorem rorder_l4 {d : S30} (h : Dr d) (rec17 : List Int → List (List Int) → List Int → Int → Option S30) (x13 : List (List Int)) (x15 : List Int) (i : Nat) (q : Int) (hq0 : 0 ≤ q ∧ q < (d.f1.length : Int)) :
    ∀ (m c fuel : Nat) (L acc : List Int), c + m = (rw' d q).length → m < fuel → (∀ x ∈ L, 0 ≤ x) → L.length + m ≤ 100000 → acc.length = c → i < L.length → lget L (i : Int) = q → (∀ (L' : List Int) (r : Nat), (∃ k, L' = L ++ k) → (∀ x ∈ L', x ∈ L ∨ (x ∈ rw' d q ∧ 0 ≤ x)) → L'.Nodup → L'.length ≤ 1000) → L.Nodup →
    bosketref08_Order_l4 5000 rec17 d x13 x15 (i : Int) fuel L acc (c : Int) = bosketref08_Order_c2 5000 rec17 d x13 x15 (i : Int) (ordR L ((rw' d q).drop c)) (acc ++ ((rw' d q).drop c).map (pl (ordR L ((rw' d q).drop c))))
  | 0, c, f + 1, L, acc, hc, _, hL, hz, ha, hi, hq, hb, hnd => by
    have hcn : ¬ (c : Int) < ((lget d.f1 q).length : Int) := by
      have : ¬ (c : Int) < ((rw' d q).length : Int) := by omega
      exact this
    rw [bosketref08_Order_l4.eq_2, if_pos ⟨by omega, by omega⟩, hq, if_pos hq0, if_neg hcn, List.drop_of_length_le (by omega)]
    simp [ordR]
  | m + 1, c, f + 1, L, acc, hc, hf, hL, hz, ha, hi, hq, hb, hnd => by
    have hc' : c < (rw' d q).length := by omega
    have hcI : (c : Int) < ((lget d.f1 q).length : Int) := by
      have : (c : Int) < ((rw' d q).length : Int) := by omega
      exact this
    have he := h.entk hq0.1 hq0.2 (c := (c : Int)) (by omega) hcI
    have h256 : (rw' d q).length ≤ 256 := h.row256 _ (mem_lget hq0.1 hq0.2)
    have ge : lget (lget d.f1 q) (c : Int) = (rw' d q)[c] := lget_lt (rw' d q) c hc'
    have hmx : (rw' d q)[c] ∈ rw' d q := List.getElem_mem hc'
    have hLl : L.length ≤ 1000 := hb L 0 ⟨[], by simp⟩ (fun x hx => .inl hx) hnd
    have gi : 0 ≤ (i : Int) ∧ (i : Int) < (L.length : Int) := ⟨by omega, by omega⟩
    rw [bosketref08_Order_l4.eq_2, if_pos gi, hq, if_pos hq0, if_pos hcI, if_pos gi, if_pos hq0, if_pos ⟨by omega, hcI⟩]
    unfold bosketref08_Order_c3
    rw [hq, ge, List.drop_eq_getElem_cons hc', List.map_cons]
    rw [ge] at he
    have hd2 : ordR L ((rw' d q)[c] :: (rw' d q).drop (c + 1)) = ordR (addO L (rw' d q)[c]) ((rw' d q).drop (c + 1)) := rfl
    rw [hd2]
    generalize hto : (rw' d q)[c] = to at he hmx
    have hlen : ∀ v : Int, (acc ++ [v]).length * 8 ≤ 140737488355328 := fun v => by simp; omega
    have stab : ∀ L1 : List Int, (∀ x ∈ L1, 0 ≤ x) → (0 ≤ to → to ∈ L1) → pl (ordR L1 ((rw' d q).drop (c + 1))) to = pl L1 to := by
      intro L1 h1 h2
      obtain ⟨k, hk⟩ := ordR_pre ((rw' d q).drop (c + 1)) L1
      by_cases a : 0 ≤ to
      · rw [hk]; exact pl_app k (h2 a)
      · rw [pl_not (fun z => a (h1 _ z)), pl_not (fun z => ?_)]
        rcases ordR_from _ _ z with z | z
        · exact a (h1 _ z)
        · exact a z.2
    by_cases a : 0 ≤ to
    · rw [if_pos a, place_eq L to hLl, Option.bind_some, Option.bind_some]
      by_cases b : to ∈ L
      · obtain ⟨j, j1, j2, j3⟩ := pl_get b
        have hadd : addO L to = L := by unfold addO; rw [if_neg (fun k => k.2 b)]
        rw [if_neg (by rw [j2]; simp), Option.bind_some, if_pos (hlen _), w64s (by omega) (by omega), hadd, stab L hL (fun _ => b)]
        have ih := rorder_l4 h rec17 x13 x15 i q hq0 m (c + 1) f L (acc ++ [pl L to]) (by omega) (by omega) hL (by omega) (by simp [ha]) hi hq hb hnd
        rw [List.append_assoc] at ih
        exact_mod_cast ih
      · have hadd : addO L to = L ++ [to] := by unfold addO; rw [if_pos ⟨a, b⟩]
        have hnd' : (L ++ [to]).Nodup := by rw [← hadd]; exact addO_nodup hnd
        have hL1 : ∀ x ∈ L ++ [to], 0 ≤ x := fun x hx => by
          rcases List.mem_append.1 hx with k | k
          · exact hL x k
          · have e : x = to := by simpa using k
            subst e; exact a
        have hfrom : ∀ x ∈ L ++ [to], x ∈ L ∨ (x ∈ rw' d q ∧ 0 ≤ x) := fun x hx => by
          rcases List.mem_append.1 hx with k | k
          · exact .inl k
          · have e : x = to := by simpa using k
            subst e; exact .inr ⟨hmx, a⟩
        have hl2 : (L ++ [to]).length ≤ 1000 := hb _ 0 ⟨[to], rfl⟩ hfrom hnd'
        rw [pl_not b, if_pos (by decide), if_pos (by simp; omega), place_eq _ to hl2, Option.bind_some, if_pos (hlen _), w64s (by omega) (by omega), hadd, stab _ hL1 (fun _ => by simp)]
        have ih := rorder_l4 h rec17 x13 x15 i q hq0 m (c + 1) f (L ++ [to]) (acc ++ [pl (L ++ [to]) to]) (by omega) (by omega) hL1 (by simp; omega) (by simp [ha]) (by simp; omega) (by rw [lget_pre hi]; exact hq) (fun L' r ⟨k, hk⟩ h2 h3 => hb L' r ⟨to :: k, by rw [hk]; simp⟩ (fun x hx => by
          rcases h2 x hx with z | z
          · exact hfrom x z
          · exact .inr z) h3) hnd'
        rw [List.append_assoc] at ih
        exact_mod_cast ih
    · have hadd : addO L to = L := by unfold addO; rw [if_neg (fun k => a k.1)]
      rw [if_neg a, Option.bind_some, if_neg (by decide), place_eq L to hLl, Option.bind_some, if_pos (hlen _), w64s (by omega) (by omega), hadd, stab L hL (fun k => absurd k a)]
      have ih := rorder_l4 h rec17 x13 x15 i q hq0 m (c + 1) f L (acc ++ [pl L to]) (by omega) (by omega) hL (by omega) (by simp [ha]) hi hq hb hnd
      rw [List.append_assoc] at ih
      exact_mod_cast ih
theorem rorder_l5 {d : S30} (hd : Dr d) : ∀ (m : Nat) (L : List Int) (i : Nat), OI d L i → d.f1.length < i + m →
    bosketref08_Order_l5 5000 d m L ((L.take i).map fun q => (rw' d q).map (pl L)) ((L.take i).map fun q => lget d.f2 q) (i : Int) = some (OD d (obs d m L i))
  | 0, L, i, h, hm => by
    have := h.len
    have := h.le
    omega
  | m + 1, L, i, h, hm => by
    have hlen := h.len
    have hle := h.le
    have hn2 := hd.n2
    rw [bosketref08_Order_l5.eq_2, obs]
    by_cases a : i < L.length
    · have hmem : lget L (i : Int) ∈ L := mem_lget (by omega) (by omega)
      have hq := h.rng _ hmem
      have hm2 := hd.ml
      have h256 : (rw' d (lget L (i : Int))).length ≤ 256 := hd.row256 _ (mem_lget hq.1 hq.2)
      have hnx := h.next hd a
      have hnl := hnx.len
      obtain ⟨k, hk⟩ := ordR_pre (rw' d (lget L (i : Int))) L
      have n1 := rorder_l4 hd (bosketref08_Order_l5 5000 d m) ((L.take i).map fun q => (rw' d q).map (pl L)) ((L.take i).map fun q => lget d.f2 q) i (lget L (i : Int)) hq (rw' d (lget L (i : Int))).length 0 5000 L [] (by omega) (by omega) (fun x hx => (h.rng x hx).1) (by omega) rfl a rfl
        (fun L' _ _ h2 h3 => Nat.le_trans (nodup_len d.f1.length L' h3 fun x hx => by
          rcases h2 x hx with z | z
          · exact h.rng x z
          · exact ⟨z.2, row_lt hd hq.1 hq.2 x z.1⟩) hn2) h.nd
      rw [Int.natCast_zero, List.drop_zero, List.nil_append] at n1
      rw [if_pos a, if_pos (by omega), n1]
      unfold bosketref08_Order_c2 bosketref08_Order_c1
      rw [hk] at hnx hnl ⊢
      have hgl : lget (L ++ k) (i : Int) = lget L (i : Int) := lget_pre a
      rw [if_pos (by simp; omega), if_pos ⟨by omega, by simp; omega⟩, hgl, if_pos ⟨hq.1, by omega⟩, if_pos (by simp; omega), w64s (by omega) (by omega)]
      have ih := rorder_l5 hd m (L ++ k) (i + 1) hnx (by omega)
      rw [OD_take hd h a k hk] at ih
      have e2 : ((L ++ k).take (i + 1)).map (fun q => lget d.f2 q) = (L.take i).map (fun q => lget d.f2 q) ++ [lget d.f2 (lget L (i : Int))] := by
        rw [List.take_append_of_le_length (by omega), ← List.take_append_getElem a, List.map_append, List.map_singleton, lget_lt L i a]
      rw [e2] at ih
      exact_mod_cast ih
    · rw [if_neg a, if_neg (by omega), bosketref08_Order_c0]
      have e : i = L.length := by omega
      rw [e, List.take_length]; rfl
theorem rorder_eq {d : S30} (hd : Dr d) : bosketref08_Order 5000 d = some (ORD d) := rorder_l5 hd 5000 [0] 0 (OI.start hd) (by have := hd.n2; omega)
end Go.Avl.T5
