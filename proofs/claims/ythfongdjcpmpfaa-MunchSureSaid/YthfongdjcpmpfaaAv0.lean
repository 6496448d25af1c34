/- Values as trees, and what it means that a tree stands for a value in a world: the ground of the walks of this claim. -/
import Derived.WalkKit
import Derived.Below
import Derived.Deep.Quiet
import Derived.Deep.LoopGhost
import Derived.Laws.Append
import Derived.Laws.CopyRow
import Derived.Laws.MakeOwn
import Derived.Laws.OwnMore
import Derived.KernelRfl
namespace Go.Avl
open Go Go.RowKit
set_option linter.unusedVariables false

/-- A value as a tree. `fl`: a value that leads to no memory; `st`, `ar`: a struct, an array, by their parts; `tup`: several results; `fz`: a slice that is only read, by its elements; `own`: a slice into an object of our own; `ptr`: a pointer into one (in cells); `rp`: a pointer to what is only read; `mp`: a map of our own. -/
inductive AV where
  | fl (v : Value)
  | st (cs : List (Nat × AV))
  | ar (esz : Nat) (cs : List AV)
  | tup (vs : List AV)
  | fz (esz : Nat) (els : List AV)
  | own (n off len : Nat)
  | ptr (n off : Nat)
  | rp (x : AV)
  | mp (n : Nat)

/-- Where an object of our own lies: block (none: nowhere yet), first cell, room in elements, cells an element. -/
structure Place where
  b : Option Nat
  base : Nat
  cap : Nat
  esz : Nat

/-- What is known beside the tree: memory that is only read, and the places of our own objects. -/
structure G where
  ro : Nat → Nat → Option Value
  nm : List Place

structure G.le (g g' : G) : Prop where
  ro : ∀ b o y, g.ro b o = some y → g'.ro b o = some y
  nm : ∀ (n : Nat) p, g.nm[n]? = some p → g'.nm[n]? = some p

theorem G.le.refl (g : G) : g.le g := ⟨fun _ _ _ h => h, fun _ _ h => h⟩
theorem G.le.trans {a b c : G} (h : a.le b) (k : b.le c) : a.le c := ⟨fun _ _ _ x => k.ro _ _ _ (h.ro _ _ _ x), fun _ _ x => k.nm _ _ (h.nm _ _ x)⟩
theorem G.le.push (g : G) (p : Place) : g.le { g with nm := g.nm ++ [p] } :=
  ⟨fun _ _ _ h => h, fun n q h => by
    have hn : n < g.nm.length := (List.getElem?_eq_some_iff.1 h).1
    show (g.nm ++ [p])[n]? = _
    rw [List.getElem?_append_left hn]; exact h⟩

/-- The cells that a tree stands for. -/
inductive Sim (g : G) : AV → List Value → Prop
  | fl {v} : v.oneCell' = true → Sim g (.fl v) [v]
  | stNil : Sim g (.st []) []
  | stCons {k c cs l r} : Sim g c l → l.length = k → Sim g (.st cs) r → Sim g (.st ((k, c) :: cs)) (l ++ r)
  | arNil {z} : Sim g (.ar z []) []
  | arCons {z c cs l r} : Sim g c l → l.length = z → Sim g (.ar z cs) r → Sim g (.ar z (c :: cs)) (l ++ r)
  | fz {z els l b o cap} : Sim g (.ar z els) l → (∀ j y, l[j]? = some y → g.ro b (o + j) = some y) → els.length ≤ cap → Sim g (.fz z els) [.slice (some ⟨b, o, none⟩) els.length cap]
  | fz0 {z a cap} : Sim g (.fz z []) [.slice a 0 cap]
  | own {n off len p b} : g.nm[n]? = some p → p.b = some b → off + len ≤ p.cap → Sim g (.own n off len) [.slice (some ⟨b, p.base + off * p.esz, none⟩) len (p.cap - off)]
  | own0 {n off p a} : g.nm[n]? = some p → off ≤ p.cap → Sim g (.own n off 0) [.slice a 0 0]
  | ptr {n off p b} : g.nm[n]? = some p → p.b = some b → Sim g (.ptr n off) [.pointer (some ⟨b, p.base + off, none⟩)]
  | rp {x l b o} : Sim g x l → (∀ j y, l[j]? = some y → g.ro b (o + j) = some y) → Sim g (.rp x) [.pointer (some ⟨b, o, none⟩)]
  | mp {n p b} : g.nm[n]? = some p → p.b = some b → Sim g (.mp n) [.map (some b)]

theorem Sim.mono {g g' : G} (h : g.le g') {x : AV} {l : List Value} (s : Sim g x l) : Sim g' x l := by
  induction s with
  | fl h => exact .fl h
  | stNil => exact .stNil
  | stCons _ hk _ i1 i2 => exact .stCons i1 hk i2
  | arNil => exact .arNil
  | arCons _ hk _ i1 i2 => exact .arCons i1 hk i2
  | fz _ hr hc i => exact .fz i (fun j y hy => h.ro _ _ _ (hr j y hy)) hc
  | fz0 => exact .fz0
  | own h1 h2 h3 => exact .own (h.nm _ _ h1) h2 h3
  | own0 h1 h2 => exact .own0 (h.nm _ _ h1) h2
  | ptr h1 h2 => exact .ptr (h.nm _ _ h1) h2
  | rp _ hr i => exact .rp i (fun j y hy => h.ro _ _ _ (hr j y hy))
  | mp h1 h2 => exact .mp (h.nm _ _ h1) h2

theorem Sim.one {g : G} {x : AV} {l : List Value} (s : Sim g x l) : ∀ v ∈ l, v.oneCell' = true := by
  induction s with
  | fl h => simpa using h
  | stNil => simp
  | stCons _ _ _ i1 i2 => intro v hv; exact (List.mem_append.1 hv).elim (i1 v) (i2 v)
  | arNil => simp
  | arCons _ _ _ i1 i2 => intro v hv; exact (List.mem_append.1 hv).elim (i1 v) (i2 v)
  | _ => intro v hv; simp at hv; subst hv; rfl

/-- A value that is no several results. -/
def V1 (g : G) : AV → Value → Prop
  | .fl u, v => v = u
  | .st cs, v => ∃ l, v = .agg l.toArray ∧ Sim g (.st cs) l
  | .ar z cs, v => ∃ l, v = .agg l.toArray ∧ Sim g (.ar z cs) l
  | .tup _, _ => False
  | .fz z els, v => Sim g (.fz z els) [v]
  | .own n o l, v => Sim g (.own n o l) [v]
  | .ptr n o, v => Sim g (.ptr n o) [v]
  | .rp x, v => Sim g (.rp x) [v]
  | .mp n, v => Sim g (.mp n) [v]

/-- Two lists, part by part. -/
inductive All2 {α β : Type} (R : α → β → Prop) : List α → List β → Prop
  | nil : All2 R [] []
  | cons {a b l m} : R a b → All2 R l m → All2 R (a :: l) (b :: m)
theorem All2.imp {α β : Type} {R R' : α → β → Prop} (h : ∀ a b, R a b → R' a b) {l : List α} {m : List β} (s : All2 R l m) : All2 R' l m := by
  induction s with
  | nil => exact .nil
  | cons a _ ih => exact .cons (h _ _ a) ih
theorem All2.length {α β : Type} {R : α → β → Prop} {l : List α} {m : List β} (s : All2 R l m) : m.length = l.length := by
  induction s with
  | nil => rfl
  | cons _ _ ih => simp [ih]
theorem All2.get {α β : Type} {R : α → β → Prop} {l : List α} {m : List β} (s : All2 R l m) : ∀ {i : Nat} {a : α}, l[i]? = some a → ∃ b, m[i]? = some b ∧ R a b := by
  induction s with
  | nil => intro i a h; simp at h
  | cons a _ ih =>
    intro i x h
    cases i with
    | zero => simp at h; subst h; exact ⟨_, rfl, a⟩
    | succ i => simp at h; obtain ⟨b, h1, h2⟩ := ih h; exact ⟨b, by simpa using h1, h2⟩

def V (g : G) : AV → Value → Prop
  | .tup vs, v => ∃ l : List Value, v = .tuple l.toArray ∧ All2 (V1 g) vs l
  | x, v => V1 g x v

theorem V1.mono {g g' : G} (h : g.le g') {x : AV} {v : Value} (s : V1 g x v) : V1 g' x v := by
  cases x <;> simp only [V1] at s ⊢
  · exact s
  · obtain ⟨l, e, s⟩ := s; exact ⟨l, e, s.mono h⟩
  · obtain ⟨l, e, s⟩ := s; exact ⟨l, e, s.mono h⟩
  all_goals exact s.mono h

theorem V.mono {g g' : G} (h : g.le g') {x : AV} {v : Value} (s : V g x v) : V g' x v := by
  cases x <;> simp only [V] at s ⊢
  case tup vs => obtain ⟨l, e, s⟩ := s; exact ⟨l, e, s.imp fun _ _ k => V1.mono h k⟩
  all_goals exact s.mono h

/-- May it be a part of memory? -/
def AV.cell : AV → Bool
  | .fl v => v.oneCell'
  | .tup _ => false
  | _ => true
def AV.isAgg : AV → Bool
  | .st _ | .ar _ _ => true
  | _ => false

theorem V1.sim {g : G} {x : AV} {v : Value} (s : V1 g x v) (hc : x.cell = true) : Sim g x v.cells.toList := by
  cases x with
  | fl u =>
    obtain rfl : v = u := s
    have : v.cells.toList = [v] := by cases v <;> simp_all [Value.cells, AV.cell, Value.oneCell']
    rw [this]; exact .fl hc
  | st cs => obtain ⟨l, rfl, s⟩ := s; simpa [Value.cells] using s
  | ar z cs => obtain ⟨l, rfl, s⟩ := s; simpa [Value.cells] using s
  | tup vs => exact s.elim
  | _ =>
    have s' : Sim g _ [v] := s
    have h1 := s'.one v (by simp)
    have : v.cells.toList = [v] := by cases v <;> simp_all [Value.cells, Value.oneCell']
    rw [this]; exact s'

theorem V1.of_sim_one {g : G} {x : AV} {l : List Value} (s : Sim g x l) (ha : x.isAgg = false) : ∃ v, l = [v] ∧ V1 g x v ∧ v.oneCell' = true := by
  cases s with
  | fl h => exact ⟨_, rfl, rfl, h⟩
  | stNil => cases ha
  | stCons => cases ha
  | arNil => cases ha
  | arCons => cases ha
  | fz a b c => exact ⟨_, rfl, .fz a b c, rfl⟩
  | fz0 => exact ⟨_, rfl, .fz0, rfl⟩
  | own a b c => exact ⟨_, rfl, .own a b c, rfl⟩
  | own0 a b => exact ⟨_, rfl, .own0 a b, rfl⟩
  | ptr a b => exact ⟨_, rfl, .ptr a b, rfl⟩
  | rp a b => exact ⟨_, rfl, .rp a b, rfl⟩
  | mp a b => exact ⟨_, rfl, .mp a b, rfl⟩

theorem V1.of_sim_agg {g : G} {x : AV} {l : List Value} (s : Sim g x l) (ha : x.isAgg = true) : V1 g x (.agg l.toArray) := by
  cases x <;> simp [AV.isAgg] at ha
  · exact ⟨l, rfl, s⟩
  · exact ⟨l, rfl, s⟩

/-- From cell `o` on the cells of `x` are those of `y`. -/
inductive At : AV → Nat → AV → Prop
  | here {x} : At x 0 x
  | fld0 {k c cs o y} : At c o y → At (.st ((k, c) :: cs)) o y
  | fldS {k c cs o y} : At (.st cs) o y → At (.st ((k, c) :: cs)) (k + o) y
  | idx {z cs c o y} (i : Nat) : cs[i]? = some c → At c o y → At (.ar z cs) (i * z + o) y

theorem Sim.ar_length {g : G} {z : Nat} : ∀ {cs : List AV} {l : List Value}, Sim g (.ar z cs) l → l.length = cs.length * z := by
  intro cs
  induction cs with
  | nil => intro l s; cases s; simp
  | cons c cs ih =>
    intro l s
    cases s with
    | arCons a b d => simp [ih d, b, Nat.add_mul, Nat.add_comm]

theorem Sim.ar_get {g : G} {z : Nat} : ∀ {cs : List AV} {l : List Value} {i : Nat} {c : AV}, Sim g (.ar z cs) l → cs[i]? = some c →
    ∃ m, Sim g c m ∧ m.length = z ∧ ∀ j y, m[j]? = some y → l[i * z + j]? = some y := by
  intro cs
  induction cs with
  | nil => intro l i c s h; simp at h
  | cons c0 cs ih =>
    intro l i c s h
    cases s with
    | @arCons _ _ _ l0 r a b d =>
      cases i with
      | zero =>
        simp at h; subst h
        refine ⟨l0, a, b, fun j y hy => ?_⟩
        have hj : j < l0.length := (List.getElem?_eq_some_iff.1 hy).1
        simp only [Nat.zero_mul, Nat.zero_add]
        rw [List.getElem?_append_left hj]; exact hy
      | succ i =>
        simp at h
        obtain ⟨m, h1, h2, h3⟩ := ih d h
        refine ⟨m, h1, h2, fun j y hy => ?_⟩
        rw [List.getElem?_append_right (by rw [b, Nat.add_mul]; omega)]
        have : (i + 1) * z + j - l0.length = i * z + j := by rw [b, Nat.add_mul]; omega
        rw [this]; exact h3 j y hy

theorem Sim.at {g : G} {x y : AV} {o : Nat} (h : At x o y) : ∀ {l : List Value}, Sim g x l → ∃ m, Sim g y m ∧ ∀ j v, m[j]? = some v → l[o + j]? = some v := by
  induction h with
  | here => intro l s; exact ⟨l, s, fun j v h => by simpa using h⟩
  | fld0 _ ih =>
    intro l s
    cases s with
    | stCons a b d =>
      obtain ⟨m, h1, h2⟩ := ih a
      refine ⟨m, h1, fun j v hv => ?_⟩
      have := h2 j v hv
      rw [List.getElem?_append_left (List.getElem?_eq_some_iff.1 this).1]; exact this
  | fldS _ ih =>
    intro l s
    cases s with
    | @stCons k _ _ l0 r a b d =>
      obtain ⟨m, h1, h2⟩ := ih d
      refine ⟨m, h1, fun j v hv => ?_⟩
      rw [List.getElem?_append_right (by omega)]
      have := h2 j v hv
      rw [← this]; congr 1; omega
  | idx i hi _ ih =>
    intro l s
    obtain ⟨m, h1, h2, h3⟩ := s.ar_get hi
    obtain ⟨m', k1, k2⟩ := ih h1
    exact ⟨m', k1, fun j v hv => by rw [Nat.add_assoc]; exact h3 _ _ (k2 j v hv)⟩

/-- `x'` is `x`, but that from cell `o` on the cells are those of `y'` (of as many cells as were there). -/
inductive Put : AV → Nat → AV → AV → AV → Prop
  | here {y y'} : Put y 0 y y' y'
  | fld0 {k c c' cs o y y'} : Put c o y y' c' → Put (.st ((k, c) :: cs)) o y y' (.st ((k, c') :: cs))
  | fldS {k c cs cs' o y y'} : Put (.st cs) o y y' (.st cs') → Put (.st ((k, c) :: cs)) (k + o) y y' (.st ((k, c) :: cs'))
  | idx {z cs c c' o y y'} (i : Nat) : cs[i]? = some c → Put c o y y' c' → Put (.ar z cs) (i * z + o) y y' (.ar z (cs.set i c'))

theorem Sim.ar_set {g g' : G} {z : Nat} (hle : g.le g') : ∀ {cs : List AV} {l : List Value} {i : Nat} {c c' : AV} , Sim g (.ar z cs) l → cs[i]? = some c →
    ∃ p m s, l = p ++ m ++ s ∧ p.length = i * z ∧ Sim g c m ∧ m.length = z ∧ ∀ m', Sim g' c' m' → m'.length = z → Sim g' (.ar z (cs.set i c')) (p ++ m' ++ s) := by
  intro cs
  induction cs with
  | nil => intro l i c c' s h; simp at h
  | cons c0 cs ih =>
    intro l i c c' s h
    cases s with
    | @arCons _ _ _ l0 r a b d =>
      cases i with
      | zero =>
        simp at h; subst h
        exact ⟨[], l0, r, rfl, by simp, a, b, fun m' h1 h2 => by simpa using Sim.arCons h1 h2 (d.mono hle)⟩
      | succ i =>
        simp at h
        obtain ⟨p, m, s, rfl, h1, h2, h3, h4⟩ := ih (c' := c') d h
        refine ⟨l0 ++ p, m, s, by simp, by simp [b, h1, Nat.add_mul, Nat.add_comm], h2, h3, fun m' k1 k2 => ?_⟩
        have := Sim.arCons (a.mono hle) b (h4 m' k1 k2)
        simpa using this

theorem Sim.put {g g' : G} (hle : g.le g') {x y y' x' : AV} {o : Nat} (h : Put x o y y' x') : ∀ {l : List Value}, Sim g x l →
    ∃ p m s, l = p ++ m ++ s ∧ p.length = o ∧ Sim g y m ∧ ∀ m', Sim g' y' m' → m'.length = m.length → Sim g' x' (p ++ m' ++ s) := by
  induction h with
  | here => intro l s; exact ⟨[], l, [], by simp, rfl, s, fun m' h _ => by simpa using h⟩
  | fld0 _ ih =>
    intro l s
    cases s with
    | @stCons k _ _ l0 r a b d =>
      obtain ⟨p, m, s, rfl, h1, h2, h3⟩ := ih a
      refine ⟨p, m, s ++ r, by simp, h1, h2, fun m' k1 k2 => ?_⟩
      have hk : (p ++ m' ++ s).length = (p ++ m ++ s).length := by simp; omega
      have := Sim.stCons (h3 m' k1 k2) (hk.trans b) (d.mono hle)
      simpa using this
  | fldS _ ih =>
    intro l s
    cases s with
    | @stCons k _ _ l0 r a b d =>
      obtain ⟨p, m, s, rfl, h1, h2, h3⟩ := ih d
      refine ⟨l0 ++ p, m, s, by simp, by simp [b, h1], h2, fun m' k1 k2 => ?_⟩
      have := Sim.stCons (a.mono hle) b (h3 m' k1 k2)
      simpa using this
  | idx i hi _ ih =>
    intro l sl
    obtain ⟨p, m, s, rfl, h1, h2, h3, h4⟩ := sl.ar_set hle hi
    obtain ⟨p', m2, s', rfl, k1, k2, k3⟩ := ih h2
    refine ⟨p ++ p', m2, s' ++ s, by simp, by simp [h1, k1], k2, fun m' j1 j2 => ?_⟩
    have := h4 _ (k3 m' j1 j2) (by simp at h3 ⊢; omega)
    simpa using this

#print axioms Sim.put
end Go.Avl
