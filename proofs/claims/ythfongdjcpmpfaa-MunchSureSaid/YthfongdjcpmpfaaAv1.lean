/- What a world holds of our own objects, and the walk's judgements over frames and objects as lists. -/
import Derived.Test.YthfongdjcpmpfaaAv0
namespace Go.Avl
open Go Go.RowKit
set_option linter.unusedVariables false

inductive Mem where
  | mem (x : AV)
  | map (es : List (Value × AV))

abbrev Heap := List (Nat × Mem)
abbrev Env := List (Nat × AV)

/-- Of the call: below which block nothing turns, the world and the read-only memory that it began with. -/
structure Fr where
  B : Nat
  W0 : World
  r0 : Nat → Nat → Option Value

def AV.arz : AV → Option Nat
  | .ar z _ => some z
  | _ => none

def AV.capn : AV → Nat
  | .ar _ cs => cs.length
  | _ => 0

def MemSat (g : G) (w : World) (p : Place) : Mem → Prop
  | .mem x => (∀ z, x.arz = some z → z = p.esz) ∧ ∃ l, Sim g x l ∧ ((∃ b c T, p.b = some b ∧ w.heap[b]? = some (.cells c T (0, 0)) ∧ p.base + p.cap * p.esz ≤ c.size ∧ p.base + l.length ≤ c.size ∧ ∀ j y, l[j]? = some y → c[p.base + j]? = some y) ∨
      (p.b = none ∧ l = [] ∧ p.cap = 0 ∧ x.capn = 0))
  | .map es => ∃ b arr clock, p.b = some b ∧ w.heap[b]? = some (.map arr clock) ∧ All2 (fun (e : Value × AV) (m : MapEntry) => m.key = e.1 ∧ V1 g e.2 m.val) es arr.toList

theorem MemSat.mono {g g' : G} (h : g.le g') {w : World} {p : Place} {m : Mem} (s : MemSat g w p m) : MemSat g' w p m := by
  cases m with
  | mem x => obtain ⟨he, l, s, r⟩ := s; exact ⟨he, l, s.mono h, r⟩
  | map es => obtain ⟨b, arr, c, h1, h2, h3⟩ := s; exact ⟨b, arr, c, h1, h2, h3.imp fun _ _ k => ⟨k.1, k.2.mono h⟩⟩

theorem MemSat.block {g : G} {w w' : World} {p : Place} {m : Mem} (s : MemSat g w p m) (h : ∀ b, p.b = some b → w'.heap[b]? = w.heap[b]?) : MemSat g w' p m := by
  cases m with
  | mem x =>
    obtain ⟨he, l, s, r⟩ := s
    refine ⟨he, l, s, ?_⟩
    rcases r with ⟨b, c, T, h1, h2, r⟩ | r
    · exact .inl ⟨b, c, T, h1, by rw [h b h1]; exact h2, r⟩
    · exact .inr r
  | map es => obtain ⟨b, arr, c, h1, h2, h3⟩ := s; exact ⟨b, arr, c, h1, by rw [h b h1]; exact h2, h3⟩

theorem MemSat.lt {g : G} {w : World} {p : Place} {m : Mem} (s : MemSat g w p m) : ∀ b, p.b = some b → b < w.heap.size := by
  intro b hb
  cases m with
  | mem x =>
    obtain ⟨he, l, s, r⟩ := s
    rcases r with ⟨b', c, T, h1, h2, r⟩ | r
    · rw [h1] at hb; cases hb; exact (Array.getElem?_eq_some_iff.1 h2).1
    · rw [r.1] at hb; cases hb
  | map es => obtain ⟨b', arr, c, h1, h2, h3⟩ := s; rw [h1] at hb; cases hb; exact (Array.getElem?_eq_some_iff.1 h2).1

/-- Two objects do not lie in one block. -/
def Apart (g : G) (x y : Nat × Mem) : Prop := ∀ p q b, g.nm[x.1]? = some p → g.nm[y.1]? = some q → p.b = some b → q.b ≠ some b
theorem Apart.symm {g : G} {x y : Nat × Mem} (h : Apart g x y) : Apart g y x := fun p q b h1 h2 h3 h4 => h q p b h2 h1 h4 h3

structure WSat (F : Fr) (g : G) (H : Heap) (w : World) : Prop where
  below : Below F.B F.W0 w
  size : F.B ≤ w.heap.size
  ro : ∀ b o y, g.ro b o = some y → w.cell? ⟨b, o, none⟩ = some y
  r0 : ∀ b o y, b < F.B → g.ro b o = some y → F.r0 b o = some y
  obj : ∀ n m, (n, m) ∈ H → ∃ p, g.nm[n]? = some p ∧ MemSat g w p m ∧ ∀ b, p.b = some b → F.B ≤ b ∧ ∀ o, g.ro b o = none
  apart : H.Pairwise (Apart g)

theorem ro_lt {g : G} {w : World} (h : ∀ b o y, g.ro b o = some y → w.cell? ⟨b, o, none⟩ = some y) {b o : Nat} {y : Value} (hy : g.ro b o = some y) : b < w.heap.size :=
  World.block_lt_of_cell? w _ (h b o y hy)

/-- What a pure call leaves: more that is only read, all of it new. -/
theorem WSat.ext {F : Fr} {g g' : G} {H : Heap} {w w' : World} (s : WSat F g H w) (hb : Below w.heap.size w w') (hg : g.le g')
    (hro : ∀ b o y, g'.ro b o = some y → w'.cell? ⟨b, o, none⟩ = some y) (hnew : ∀ b o y, b < w.heap.size → g'.ro b o = some y → g.ro b o = some y) : WSat F g' H w' := by
  refine ⟨s.below.trans (hb.mono s.size), Nat.le_trans s.size hb.size, hro, fun b o y h1 h2 => s.r0 b o y h1 (hnew b o y (Nat.lt_of_lt_of_le h1 s.size) h2), fun n m hm => ?_, ?_⟩
  · obtain ⟨p, h1, h2, h3⟩ := s.obj n m hm
    refine ⟨p, hg.nm _ _ h1, (h2.block fun b e => hb.block b (h2.lt b e)).mono hg, fun b e => ⟨(h3 b e).1, fun o => ?_⟩⟩
    cases hx : g'.ro b o with
    | none => rfl
    | some y => have := hnew b o y (h2.lt b e) hx; rw [(h3 b e).2 o] at this; cases this
  · refine s.apart.imp_of_mem fun {x y} hx hy h => ?_
    intro p q b h1 h2 h3 h4
    obtain ⟨p', k1, _, _⟩ := s.obj x.1 x.2 hx
    obtain ⟨q', k2, _, _⟩ := s.obj y.1 y.2 hy
    have e1 := hg.nm _ _ k1; have e2 := hg.nm _ _ k2
    rw [e1] at h1; rw [e2] at h2; cases h1; cases h2
    exact h p q b k1 k2 h3 h4

theorem ro_below {g : G} {w w' : World} (h : ∀ b o y, g.ro b o = some y → w.cell? ⟨b, o, none⟩ = some y) (hb : Below w.heap.size w w') : ∀ b o y, g.ro b o = some y → w'.cell? ⟨b, o, none⟩ = some y := by
  intro b o y hy
  rw [hb.cell (p := ⟨b, o, none⟩) (ro_lt h hy)]; exact h b o y hy

theorem WSat.of_below {F : Fr} {g : G} {H : Heap} {w w' : World} (s : WSat F g H w) (hb : Below w.heap.size w w') : WSat F g H w' :=
  s.ext hb (.refl g) (ro_below s.ro hb) (fun _ _ _ _ h => h)

/-- A new object. -/
theorem WSat.cons {F : Fr} {g : G} {H : Heap} {w w' : World} (s : WSat F g H w) (hb : Below w.heap.size w w') (p : Place) (m : Mem)
    (hp : ∀ b, p.b = some b → w.heap.size ≤ b) (hm : MemSat { g with nm := g.nm ++ [p] } w' p m) : WSat F { g with nm := g.nm ++ [p] } ((g.nm.length, m) :: H) w' := by
  have s' := s.of_below hb
  have hle := G.le.push g p
  have hn : (g.nm ++ [p])[g.nm.length]? = some p := by simp
  have sx := s'.ext (Below.refl _ _) hle (fun b o y h => s'.ro b o y h) (fun b o y _ h => h)
  refine ⟨sx.below, sx.size, sx.ro, sx.r0, fun n m' hm' => ?_, ?_⟩
  · rcases List.mem_cons.1 hm' with h | h
    · cases h
      refine ⟨p, hn, hm, fun b e => ⟨Nat.le_trans s.size (hp b e), fun o => ?_⟩⟩
      cases hx : g.ro b o with
      | none => rfl
      | some y => have := ro_lt s.ro hx; have := hp b e; omega
    · exact sx.obj n m' h
  · refine List.pairwise_cons.2 ⟨fun y hy q r b h1 h2 h3 h4 => ?_, sx.apart⟩
    have e1 : some p = some q := hn.symm.trans h1
    cases e1
    obtain ⟨r', k1, k2, _⟩ := s.obj y.1 y.2 hy
    have e2 : some r' = some r := (hle.nm _ _ k1).symm.trans h2
    cases e2
    have := k2.lt b h4; have := hp b h3; omega

theorem pairwise_set {α : Type} {R : α → α → Prop} (hs : ∀ {x y}, R x y → R y x) {l : List α} (h : l.Pairwise R) (i : Nat) (x' : α)
    (hx : ∀ j y, j ≠ i → l[j]? = some y → R x' y) : (l.set i x').Pairwise R := by
  induction l generalizing i with
  | nil => exact .nil
  | cons a l ih =>
    obtain ⟨h1, h2⟩ := List.pairwise_cons.1 h
    cases i with
    | zero =>
      refine List.pairwise_cons.2 ⟨fun y hy => ?_, h2⟩
      obtain ⟨j, hj⟩ := List.getElem?_of_mem hy
      exact hx (j + 1) y (by omega) (by simpa using hj)
    | succ i =>
      refine List.pairwise_cons.2 ⟨fun y hy => ?_, ih h2 i fun j y hj hy => hx (j + 1) y (by omega) (by simpa using hy)⟩
      rcases List.mem_or_eq_of_mem_set hy with h | h
      · exact h1 y h
      · subst h; exact hs (hx 0 a (by omega) rfl)

/-- One object turned, or gone on elsewhere. -/
theorem WSat.set {F : Fr} {g g' : G} {H : Heap} {w w' : World} (s : WSat F g H w) {i n n' : Nat} {m m' : Mem} {p p' : Place} (hi : H[i]? = some (n, m)) (hn : g.nm[n]? = some p)
    (hg : g.le g') (hro : ∀ b o, g'.ro b o = g.ro b o) (hos : w'.os = w.os) (htape : w'.tape = w.tape) (hout : w'.output = w.output) (hsize : w.heap.size ≤ w'.heap.size)
    (hblk : ∀ k, k < w.heap.size → p.b ≠ some k → w'.heap[k]? = w.heap[k]?) (hn' : g'.nm[n']? = some p') (hm' : MemSat g' w' p' m')
    (hp' : ∀ b, p'.b = some b → p.b = some b ∨ w.heap.size ≤ b) : WSat F g' (H.set i (n', m')) w' := by
  have hmem : (n, m) ∈ H := List.mem_of_getElem? hi
  obtain ⟨p0, k1, k2, k3⟩ := s.obj n m hmem
  obtain rfl : p0 = p := Option.some.inj (k1.symm.trans hn)
  have hother : ∀ (j : Nat) y, j ≠ i → H[j]? = some y → ∃ q, g.nm[y.1]? = some q ∧ MemSat g w q y.2 ∧ (∀ b, q.b = some b → F.B ≤ b ∧ ∀ o, g.ro b o = none) ∧ ∀ b, p0.b = some b → q.b ≠ some b := by
    intro j y hj hy
    obtain ⟨q, q1, q2, q3⟩ := s.obj y.1 y.2 (List.mem_of_getElem? hy)
    refine ⟨q, q1, q2, q3, fun b e1 e2 => ?_⟩
    rcases Nat.lt_or_gt_of_ne hj with hlt | hlt
    · exact (List.pairwise_iff_getElem.1 s.apart) j i (List.getElem?_eq_some_iff.1 hy).1 (List.getElem?_eq_some_iff.1 hi).1 hlt q p0 b
        (by rw [(List.getElem?_eq_some_iff.1 hy).2]; exact q1) (by rw [(List.getElem?_eq_some_iff.1 hi).2]; exact hn) e2 e1
    · exact (List.pairwise_iff_getElem.1 s.apart) i j (List.getElem?_eq_some_iff.1 hi).1 (List.getElem?_eq_some_iff.1 hy).1 hlt p0 q b
        (by rw [(List.getElem?_eq_some_iff.1 hi).2]; exact hn) (by rw [(List.getElem?_eq_some_iff.1 hy).2]; exact q1) e1 e2
  have hroblk : ∀ b o y, g.ro b o = some y → p0.b ≠ some b := fun b o y h e => by have := (k3 b e).2 o; rw [h] at this; cases this
  have hsub : Below F.B w w' := ⟨hos, htape, hout, hsize, fun k hk => hblk k (Nat.lt_of_lt_of_le hk s.size) fun e => by have := (k3 k e).1; omega⟩
  refine ⟨s.below.trans hsub, Nat.le_trans s.size hsize, fun b o y h => ?_, fun b o y h1 h2 => s.r0 b o y h1 (by rw [← hro]; exact h2), fun n2 m2 h2 => ?_, ?_⟩
  · rw [hro] at h
    rw [World.cell?_of_block (w := w) (a := ⟨b, o, none⟩) (hblk b (ro_lt s.ro h) (hroblk b o y h))]
    exact s.ro b o y h
  · rw [List.mem_iff_getElem?] at h2
    obtain ⟨j, hj⟩ := h2
    by_cases hji : j = i
    · subst hji
      rw [List.getElem?_set_self (List.getElem?_eq_some_iff.1 hi).1] at hj
      cases hj
      refine ⟨p', hn', hm', fun b e => ?_⟩
      rcases hp' b e with h | h
      · exact ⟨(k3 b h).1, fun o => by rw [hro]; exact (k3 b h).2 o⟩
      · refine ⟨Nat.le_trans s.size h, fun o => ?_⟩
        rw [hro]
        cases hx : g.ro b o with
        | none => rfl
        | some y => have := ro_lt s.ro hx; omega
    · rw [List.getElem?_set_ne (fun e => hji e.symm)] at hj
      obtain ⟨q, q1, q2, q3, q4⟩ := hother j _ hji hj
      refine ⟨q, hg.nm _ _ q1, (q2.block fun b e => hblk b (q2.lt b e) fun e' => q4 b e' e).mono hg, fun b e => ⟨(q3 b e).1, fun o => by rw [hro]; exact (q3 b e).2 o⟩⟩
  · have hap : H.Pairwise (Apart g') := s.apart.imp_of_mem fun {x y} hx hy h => by
      intro p1 q1 b h1 h2 h3 h4
      obtain ⟨p2, j1, _, _⟩ := s.obj x.1 x.2 hx
      obtain ⟨q2, j2, _, _⟩ := s.obj y.1 y.2 hy
      have e1 := hg.nm _ _ j1; have e2 := hg.nm _ _ j2
      rw [e1] at h1; rw [e2] at h2; cases h1; cases h2
      exact h _ _ b j1 j2 h3 h4
    refine pairwise_set (fun h => h.symm) hap i _ fun j y hji hj => ?_
    obtain ⟨q, q1, q2, q3, q4⟩ := hother j y hji hj
    intro p1 q' b h1 h2 h3 h4
    obtain rfl : p' = p1 := Option.some.inj (hn'.symm.trans h1)
    obtain rfl : q = q' := Option.some.inj ((hg.nm _ _ q1).symm.trans h2)
    rcases hp' b h3 with h | h
    · exact q4 b h h4
    · have := q2.lt b h4; omega

/-- Objects forgotten, in another order. -/
def Sub (H2 H : Heap) : Prop := ∃ l, (H2 ++ l).Perm H
theorem Sub.refl (H : Heap) : Sub H H := ⟨[], by simp⟩
theorem Sub.nil (H : Heap) : Sub [] H := ⟨H, by simp⟩
theorem Sub.drop {H2 H : Heap} {x : Nat × Mem} (h : Sub H2 H) : Sub H2 (x :: H) := by
  obtain ⟨l, h⟩ := h; exact ⟨x :: l, (List.perm_middle).trans (h.cons x)⟩
theorem Sub.keep {H2 H : Heap} {x : Nat × Mem} (h : Sub H2 H) : Sub (x :: H2) (x :: H) := by
  obtain ⟨l, h⟩ := h; exact ⟨l, h.cons x⟩
theorem Sub.trans {a b c : Heap} (h : Sub a b) (k : Sub b c) : Sub a c := by
  obtain ⟨l, h⟩ := h; obtain ⟨m, k⟩ := k
  exact ⟨l ++ m, by rw [← List.append_assoc]; exact (h.append_right m).trans k⟩
theorem front_perm {α : Type} : ∀ {l : List α} {i : Nat} {x : α}, l[i]? = some x → (x :: l.eraseIdx i).Perm l
  | a :: l, 0, x, h => by simp at h; subst h; simp
  | a :: l, i + 1, x, h => by
    simp at h
    exact (List.Perm.swap a x _).trans ((front_perm h).cons a)
theorem Sub.front (i : Nat) {H : Heap} {x : Nat × Mem} (h : H[i]? = some x) : Sub (x :: H.eraseIdx i) H := by
  refine ⟨[], ?_⟩
  simp only [List.append_nil]
  exact front_perm h
theorem Sub.cons {H2 H : Heap} (i : Nat) {x : Nat × Mem} (hx : H[i]? = some x) (h : Sub H2 (H.eraseIdx i)) : Sub (x :: H2) H := (h.keep).trans (Sub.front i hx)

theorem WSat.sub {F : Fr} {g : G} {H H2 : Heap} {w : World} (s : WSat F g H w) (h : Sub H2 H) : WSat F g H2 w := by
  obtain ⟨l, h⟩ := h
  have hp := (List.Perm.pairwise_iff (fun {x y} (h : Apart g x y) => h.symm) h).2 s.apart
  refine ⟨s.below, s.size, s.ro, s.r0, fun n m hm => s.obj n m (h.mem_iff.1 (List.mem_append_left _ hm)), (List.pairwise_append.1 hp).1⟩

#print axioms WSat.set
end Go.Avl
