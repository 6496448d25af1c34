/- The walk's judgements: operations (AO), operations in whatever order (AQ), code (AW), calls (Spec, SpecH). -/
import Derived.Test.YthfongdjcpmpfaaAv1
namespace Go.Avl
open Go Go.RowKit
set_option linter.unusedVariables false

def ESat (g : G) (ρ : Env) (a : Act) : Prop := ∀ t x, ρ.lookup t = some x → V g x (a.tmps.getD t undef)

theorem ESat.mono {g g' : G} (h : g.le g') {ρ : Env} {a : Act} (s : ESat g ρ a) : ESat g' ρ a := fun t x hx => (s t x hx).mono h

def Env.ev (ρ : Env) : Operand → Option AV
  | .tmp t => ρ.lookup t
  | .const v => some (.fl v)
  | .global g => some (.fl (.pointer (some ⟨g, 0, none⟩)))
  | .func f => some (.fl (.func (.func f) #[] #[]))

theorem ESat.ev {g : G} {ρ : Env} {a : Act} (s : ESat g ρ a) {x : Operand} {y : AV} (h : Env.ev ρ x = some y) : V g y (a.eval x) := by
  cases x with
  | tmp t => exact s t y h
  | const v => cases h; rfl
  | global g => cases h; rfl
  | func f => cases h; rfl

theorem lookup_cons (t u : Nat) (x : AV) (ρ : Env) : List.lookup t ((u, x) :: ρ) = if t = u then some x else List.lookup t ρ := by
  by_cases h : t = u
  · subst h; simp [List.lookup]
  · have : (t == u) = false := by simpa using h
    simp [List.lookup, this, h]

theorem ESat.put {g : G} {ρ : Env} {a : Act} (s : ESat g ρ a) {d : Nat} {x : AV} {v : Value} (hv : V g x v) (hd : d < a.tmps.size) : ESat g ((d, x) :: ρ) (a.put (some d) v) := by
  intro t y hy
  rw [lookup_cons] at hy
  by_cases h : t = d
  · rw [if_pos h] at hy; cases hy; subst h
    simpa [Act.put, Array.getD, hd] using hv
  · rw [if_neg h] at hy
    have := s t y hy
    have e : (a.put (some d) v).tmps.getD t undef = a.tmps.getD t undef := by
      simp [Act.put, Array.getElem?_setIfInBounds_ne (Ne.symm h)]
    rw [e]; exact this

/-- Each slot of the first is one of the second. -/
def ESub : Env → Env → Prop
  | [], _ => True
  | (t, x) :: r, ρ => ρ.lookup t = some x ∧ ESub r ρ
theorem ESub.lookup : ∀ {ρ' ρ : Env}, ESub ρ' ρ → ∀ {t x}, ρ'.lookup t = some x → ρ.lookup t = some x
  | (u, y) :: r, ρ, h, t, x, hx => by
    rw [lookup_cons] at hx
    by_cases e : t = u
    · rw [if_pos e] at hx; cases hx; subst e; exact h.1
    · rw [if_neg e] at hx; exact ESub.lookup h.2 hx
theorem ESub.sat {g : G} {ρ' ρ : Env} {a : Act} (h : ESub ρ' ρ) (s : ESat g ρ a) : ESat g ρ' a := fun t x hx => s t x (h.lookup hx)

/-- Operations, one behind the other. -/
def AO (P : Program) (N : Nat) (ops : Array Oper) (rest : List Oper) (K : Env → Heap → Prop) (ρ : Env) (H : Heap) : Prop :=
  ∀ (F : Fr) (g : G) (a : Act) (w : World) (Q : Exit → Act → World → Prop), ESat g ρ a → a.tmps.size = N → WSat F g H w →
    (∀ g' ρ' H' a' w', g.le g' → ESat g' ρ' a' → a'.tmps.size = N → a'.defers = a.defers → WSat F g' H' w' → K ρ' H' → Q .normal a' w') → wpList P ops Q rest a w

/-- Code. -/
def AW (P : Program) (N : Nat) (c : Code) (Q : Exit → Env → Heap → Prop) (ρ : Env) (H : Heap) : Prop :=
  ∀ (F : Fr) (g : G) (a : Act) (w : World) (R : Exit → Act → World → Prop), ESat g ρ a → a.tmps.size = N → WSat F g H w →
    (∀ e g' ρ' H' a' w', g.le g' → ESat g' ρ' a' → a'.tmps.size = N → a'.defers = a.defers → WSat F g' H' w' → Q e ρ' H' → R e a' w') → c.wp P R a w

/-- An operation that leaves our objects alone, and yields this. -/
def Calm (P : Program) (o : Oper) (ρ : Env) (H : Heap) (x : AV) : Prop :=
  ∀ (F : Fr) (g : G) (a : Act) (w : World), ESat g ρ a → WSat F g H w →
    ∃ v, V g x v ∧ ∀ w', Below w.heap.size w w' → o.quietAt P a (Below w.heap.size w) w' v

section
variable {P : Program} {N : Nat} {ops : Array Oper} {o : Oper} {rest : List Oper} {K : Env → Heap → Prop} {ρ ρ' : Env} {H H' : Heap} {x : AV}

theorem put_size (a : Act) (d : Option Nat) (v : Value) : (a.put d v).tmps.size = a.tmps.size := by cases d <;> simp [Act.put]
theorem put_defers (a : Act) (d : Option Nat) (v : Value) : (a.put d v).defers = a.defers := by cases d <;> rfl

theorem AO.nil (hs : ESub ρ' ρ) (hH : Sub H' H) (hk : K ρ' H') : AO P N ops [] K ρ H :=
  fun F g a w Q h1 h2 h3 h4 => h4 g ρ' H' a w (.refl g) (hs.sat h1) h2 rfl (h3.sub hH) hk

theorem AO.weak (hs : ESub ρ' ρ) (hH : Sub H' H) (h : AO P N ops rest K ρ' H') : AO P N ops rest K ρ H :=
  fun F g a w Q h1 h2 h3 h4 => h F g a w Q (hs.sat h1) h2 (h3.sub hH) h4

theorem wanted_none (h : o.guard = none) (t : Nat → Option Bool) : Region.wanted o t = true := by simp [Region.wanted, h]

theorem wanted_some {j : Nat} {want b : Bool} {d : Nat} {g : G} {a : Act} (hg : o.guard = some (j, want)) (hd : (ops[j]?).bind (·.dst) = some d) (hb : ρ.lookup d = some (.fl (.bool b))) (s : ESat g ρ a) :
    Region.wanted o (yielded ops a.tmps) = (b == want) := by
  have hv : a.tmps.getD d undef = .bool b := s d _ hb
  have : a.tmps[d]? = some (.bool b) := by
    rcases Nat.lt_or_ge d a.tmps.size with h | h
    · simp [h] at hv ⊢; exact hv
    · simp [Array.getElem?_eq_none h, undef] at hv
  simp [Region.wanted, hg, yielded, hd, this]

theorem AO.calm_w (hw : ∀ g a, ESat g ρ a → Region.wanted o (yielded ops a.tmps) = true) (d : Nat) (hd : o.dst = some d) (hN : d < N) (x : AV) (hc : Calm P o ρ H x) (h : AO P N ops rest K ((d, x) :: ρ) H) : AO P N ops (o :: rest) K ρ H := by
  intro F g a w Q h1 h2 h3 h4
  unfold wpList
  rw [if_pos (hw g a h1)]
  left
  obtain ⟨v, hv, hq⟩ := hc F g a w h1 h3
  refine Oper.wp_of_quiet (C := Below w.heap.size w) (K := fun a' => a' = a.put o.dst v) (Below.refl _ _) ?_ ⟨v, hq, rfl⟩
  rintro a' w' hb rfl
  refine h F g _ w' Q (by rw [hd]; exact h1.put hv (by omega)) (by rw [put_size]; exact h2) (h3.of_below hb) ?_
  intro g' ρ' H' a' w2 k1 k2 k3 k4 k5 k6
  exact h4 g' ρ' H' a' w2 k1 k2 k3 (by rw [k4, put_defers]) k5 k6

theorem AO.calm (hg : o.guard = none) (d : Nat) (hd : o.dst = some d) (hN : d < N) (x : AV) (hc : Calm P o ρ H x) (h : AO P N ops rest K ((d, x) :: ρ) H) : AO P N ops (o :: rest) K ρ H :=
  AO.calm_w (fun _ _ _ => wanted_none hg _) d hd hN x hc h

theorem AO.calmG (j : Nat) (b : Bool) (e : Nat) (hg : o.guard = some (j, b)) (he : (ops[j]?).bind (·.dst) = some e) (hb : ρ.lookup e = some (.fl (.bool b)))
    (d : Nat) (hd : o.dst = some d) (hN : d < N) (x : AV) (hc : Calm P o ρ H x) (h : AO P N ops rest K ((d, x) :: ρ) H) : AO P N ops (o :: rest) K ρ H :=
  AO.calm_w (fun _ _ s => by rw [wanted_some hg he hb s]; simp) d hd hN x hc h

theorem AO.skipG (j : Nat) (b : Bool) (e : Nat) (hg : o.guard = some (j, !b)) (he : (ops[j]?).bind (·.dst) = some e) (hb : ρ.lookup e = some (.fl (.bool b)))
    (d : Nat) (hd : o.dst = some d) (hN : d < N) (h : AO P N ops rest K ((d, .fl undef) :: ρ) H) : AO P N ops (o :: rest) K ρ H := by
  intro F g a w Q h1 h2 h3 h4
  unfold wpList
  rw [if_neg (by rw [wanted_some hg he hb h1]; cases b <;> simp)]
  refine h F g _ w Q (by rw [hd]; exact h1.put rfl (by omega)) (by rw [put_size]; exact h2) h3 ?_
  intro g' ρ' H' a' w2 k1 k2 k3 k4 k5 k6
  exact h4 g' ρ' H' a' w2 k1 k2 k3 (by rw [k4, put_defers]) k5 k6

/-- Operations in whatever order: one walk of the text's order. -/
def AQ (P : Program) (N : Nat) (ops : Array Oper) (rest : List Oper) (K : Env → Prop) (ρ : Env) (H : Heap) : Prop :=
  ∀ (F : Fr) (g : G) (a : Act) (w : World) (Q : Act → Prop), ESat g ρ a → a.tmps.size = N → WSat F g H w →
    (∀ ρ' a', ESat g ρ' a' → a'.tmps.size = N → a'.defers = a.defers → K ρ' → Q a') → wpQuiet P ops (Below w.heap.size w) Q rest a

variable {KQ : Env → Prop}
theorem AQ.nil (hs : ESub ρ' ρ) (hk : KQ ρ') : AQ P N ops [] KQ ρ H := fun F g a w Q h1 h2 h3 h4 => h4 ρ' a (hs.sat h1) h2 rfl hk

theorem AQ.calm_w (hw : ∀ g a, ESat g ρ a → Region.wanted o (yielded ops a.tmps) = true) (d : Nat) (hd : o.dst = some d) (hN : d < N) (x : AV) (hc : Calm P o ρ H x) (h : AQ P N ops rest KQ ((d, x) :: ρ) H) : AQ P N ops (o :: rest) KQ ρ H := by
  intro F g a w Q h1 h2 h3 h4
  unfold wpQuiet
  rw [if_pos (hw g a h1)]
  obtain ⟨v, hv, hq⟩ := hc F g a w h1 h3
  refine ⟨v, hq, ?_⟩
  refine h F g _ w Q (by rw [hd]; exact h1.put hv (by omega)) (by rw [put_size]; exact h2) h3 ?_
  intro ρ' a' k2 k3 k4 k6
  exact h4 ρ' a' k2 k3 (by rw [k4, put_defers]) k6

theorem AQ.calm (hg : o.guard = none) (d : Nat) (hd : o.dst = some d) (hN : d < N) (x : AV) (hc : Calm P o ρ H x) (h : AQ P N ops rest KQ ((d, x) :: ρ) H) : AQ P N ops (o :: rest) KQ ρ H :=
  AQ.calm_w (fun _ _ _ => wanted_none hg _) d hd hN x hc h
theorem AQ.calmG (j : Nat) (b : Bool) (e : Nat) (hg : o.guard = some (j, b)) (he : (ops[j]?).bind (·.dst) = some e) (hb : ρ.lookup e = some (.fl (.bool b)))
    (d : Nat) (hd : o.dst = some d) (hN : d < N) (x : AV) (hc : Calm P o ρ H x) (h : AQ P N ops rest KQ ((d, x) :: ρ) H) : AQ P N ops (o :: rest) KQ ρ H :=
  AQ.calm_w (fun _ _ s => by rw [wanted_some hg he hb s]; simp) d hd hN x hc h
theorem AQ.skipG (j : Nat) (b : Bool) (e : Nat) (hg : o.guard = some (j, !b)) (he : (ops[j]?).bind (·.dst) = some e) (hb : ρ.lookup e = some (.fl (.bool b)))
    (d : Nat) (hd : o.dst = some d) (hN : d < N) (h : AQ P N ops rest KQ ((d, .fl undef) :: ρ) H) : AQ P N ops (o :: rest) KQ ρ H := by
  intro F g a w Q h1 h2 h3 h4
  unfold wpQuiet
  rw [if_neg (by rw [wanted_some hg he hb h1]; cases b <;> simp)]
  refine h F g _ w Q (by rw [hd]; exact h1.put rfl (by omega)) (by rw [put_size]; exact h2) h3 ?_
  intro ρ' a' k2 k3 k4 k6
  exact h4 ρ' a' k2 k3 (by rw [k4, put_defers]) k6
end

/-! ### Code -/
def Then (K : Env → Heap → Prop) (Q : Exit → Env → Heap → Prop) : Exit → Env → Heap → Prop
  | .normal, ρ, H => K ρ H
  | e, ρ, H => Q e ρ H
def InBlock (id : Nat) (Q : Exit → Env → Heap → Prop) : Exit → Env → Heap → Prop
  | .exit id', ρ, H => if id' = id then Q .normal ρ H else Q (.exit id') ρ H
  | e, ρ, H => Q e ρ H

section
variable {P : Program} {N : Nat} {Q : Exit → Env → Heap → Prop} {ρ ρ' : Env} {H H' : Heap} {c c' : Code}

theorem AW.weak (hs : ESub ρ' ρ) (hH : Sub H' H) (h : AW P N c Q ρ' H') : AW P N c Q ρ H :=
  fun F g a w R h1 h2 h3 h4 => h F g a w R (hs.sat h1) h2 (h3.sub hH) h4

theorem AW.skip (hs : ESub ρ' ρ) (hH : Sub H' H) (h : Q .normal ρ' H') : AW P N .skip Q ρ H :=
  fun F g a w R h1 h2 h3 h4 => wp_skip (h4 _ g ρ' H' a w (.refl g) (hs.sat h1) h2 rfl (h3.sub hH) h)
theorem AW.exit {id : Nat} (hs : ESub ρ' ρ) (hH : Sub H' H) (h : Q (.exit id) ρ' H') : AW P N (.exit id) Q ρ H :=
  fun F g a w R h1 h2 h3 h4 => wp_exit (h4 _ g ρ' H' a w (.refl g) (hs.sat h1) h2 rfl (h3.sub hH) h)
theorem AW.ret (hs : ESub ρ' ρ) (hH : Sub H' H) (h : Q .ret ρ' H') : AW P N .ret Q ρ H :=
  fun F g a w R h1 h2 h3 h4 => wp_ret (h4 _ g ρ' H' a w (.refl g) (hs.sat h1) h2 rfl (h3.sub hH) h)

theorem AW.seq (h : AW P N c (Then (AW P N c' Q) Q) ρ H) : AW P N (.seq c c') Q ρ H := by
  intro F g a w R h1 h2 h3 h4
  refine wp_seq (h F g a w _ h1 h2 h3 ?_)
  intro e g' ρ' H' a' w' k1 k2 k3 k4 k5 k6
  cases e with
  | normal => exact k6 F g' a' w' R k2 k3 k5 fun e g2 ρ2 H2 a2 w2 j1 j2 j3 j4 j5 j6 => h4 e g2 ρ2 H2 a2 w2 (k1.trans j1) j2 j3 (j4.trans k4) j5 j6
  | _ => exact h4 _ g' ρ' H' a' w' k1 k2 k3 k4 k5 k6

/-- What comes meets: behind the first, in whatever way it came, this holds. -/
theorem AW.seq_mid (M : Env → Heap → Prop) (h : AW P N c (Then M Q) ρ H) (h' : ∀ ρ' H', M ρ' H' → AW P N c' Q ρ' H') : AW P N (.seq c c') Q ρ H :=
  AW.seq fun F g a w R h1 h2 h3 h4 => h F g a w R h1 h2 h3 fun e g' ρ' H' a' w' k1 k2 k3 k4 k5 k6 => h4 e g' ρ' H' a' w' k1 k2 k3 k4 k5 (by
    cases e with
    | normal => exact h' _ _ k6
    | _ => exact k6)

theorem AW.block {id : Nat} (h : AW P N c (InBlock id Q) ρ H) : AW P N (.block id c) Q ρ H := by
  intro F g a w R h1 h2 h3 h4
  refine wp_block (h F g a w _ h1 h2 h3 ?_)
  intro e g' ρ' H' a' w' k1 k2 k3 k4 k5 k6
  cases e with
  | exit id' =>
    simp only [InBlock] at k6
    simp only [Exit.inBlock]
    by_cases h : id' = id
    · rw [if_pos h] at k6 ⊢; exact h4 _ g' ρ' H' a' w' k1 k2 k3 k4 k5 k6
    · rw [if_neg h] at k6 ⊢; exact h4 _ g' ρ' H' a' w' k1 k2 k3 k4 k5 k6
  | _ => exact h4 _ g' ρ' H' a' w' k1 k2 k3 k4 k5 k6

theorem AW.cond {x : Operand} (b : Bool) (hx : Env.ev ρ x = some (.fl (.bool b))) (ht : b = true → AW P N c Q ρ H) (hf : b = false → AW P N c' Q ρ H) : AW P N (.cond x c c') Q ρ H := by
  intro F g a w R h1 h2 h3 h4
  have he : a.eval x = .bool b := h1.ev hx
  exact wp_cond_split he (fun hb => ht hb F g a w R h1 h2 h3 h4) (fun hb => hf hb F g a w R h1 h2 h3 h4)
theorem AW.condT {x : Operand} (hx : Env.ev ρ x = some (.fl (.bool true))) (ht : AW P N c Q ρ H) : AW P N (.cond x c c') Q ρ H :=
  AW.cond true hx (fun _ => ht) (fun h => by cases h)
theorem AW.condF {x : Operand} (hx : Env.ev ρ x = some (.fl (.bool false))) (hf : AW P N c' Q ρ H) : AW P N (.cond x c c') Q ρ H :=
  AW.cond false hx (fun h => by cases h) (fun _ => hf)

theorem AW.reg {id : Nat} {l : List Oper} (h : AO P N l.toArray l (Q .normal) ρ H) : AW P N (.region id l.toArray false) Q ρ H :=
  fun F g a w R h1 h2 h3 h4 => wp_region_lit (h F g a w R h1 h2 h3 fun g' ρ' H' a' w' k1 k2 k3 k4 k5 k6 => h4 _ g' ρ' H' a' w' k1 k2 k3 k4 k5 k6)

theorem AW.regQ {id : Nat} {l : List Oper} (hm : P.follows .mixedOrders = true) (hB : Region.lexB .any l.toArray = true) (h : AQ P N l.toArray l (fun ρ' => Q .normal ρ' H) ρ H) : AW P N (.region id l.toArray true) Q ρ H := by
  intro F g a w R h1 h2 h3 h4
  refine wp_region_quiet (C := Below w.heap.size w) hm hB (Below.refl _ _).drew ?_
  refine h F g a w _ h1 h2 h3 ?_
  intro ρ' a' k1 k2 k3 k4 w' hb
  exact h4 _ g ρ' H a' w' (.refl g) k1 k2 k3 (h3.of_below hb) k4

theorem AW.loop (I : Nat → Env → Heap → Prop) (n : Nat) (h0 : I n ρ H) (hr : ∀ k ρ H, I k ρ H → AW P N c (Then (fun ρ' H' => ∃ k', k' < k ∧ I k' ρ' H') Q) ρ H) : AW P N (.loop c) Q ρ H := by
  intro F g a w R h1 h2 h3 h4
  refine wp_loop_ghost (fun k a' w' => ∃ g' ρ' H', g.le g' ∧ ESat g' ρ' a' ∧ a'.tmps.size = N ∧ a'.defers = a.defers ∧ WSat F g' H' w' ∧ I k ρ' H') n ⟨g, ρ, H, .refl g, h1, h2, rfl, h3, h0⟩ ?_
  rintro k a1 w1 ⟨g1, ρ1, H1, k1, k2, k3, k4, k5, k6⟩
  refine hr k ρ1 H1 k6 F g1 a1 w1 _ k2 k3 k5 ?_
  intro e g' ρ' H' a' w' j1 j2 j3 j4 j5 j6
  cases e with
  | normal =>
    obtain ⟨k', hk, hI⟩ := j6
    exact ⟨k', hk, g', ρ', H', k1.trans j1, j2, j3, j4.trans k4, j5, hI⟩
  | _ => exact h4 _ g' ρ' H' a' w' (k1.trans j1) j2 j3 (j4.trans k4) j5 j6
end

/-! ### Calls -/
/-- A call that, wherever it is made, answers `r` and leaves all that was there as it was. -/
def Spec (P : Program) (f : FuncId) (args : List AV) (r : AV) : Prop :=
  ∀ (g : G) (cargs : List Value) (w : World), All2 (V1 g) args cargs → (∀ b o y, g.ro b o = some y → w.cell? ⟨b, o, none⟩ = some y) →
    Calls P f cargs.toArray w fun e w' => ∃ v g', e = .returned v ∧ g.le g' ∧ V g' r v ∧ (∀ b o y, g'.ro b o = some y → w'.cell? ⟨b, o, none⟩ = some y) ∧
      (∀ b o y, b < w.heap.size → g'.ro b o = some y → g.ro b o = some y) ∧ Below w.heap.size w w'

/-- A call over our own objects. -/
def SpecH (P : Program) (f : FuncId) (args : List AV) (H : Heap) (Q : AV → Heap → Prop) : Prop :=
  ∀ (F : Fr) (g : G) (cargs : List Value) (w : World), All2 (V1 g) args cargs → WSat F g H w →
    Calls P f cargs.toArray w fun e w' => ∃ v g' H' r, e = .returned v ∧ g.le g' ∧ V g' r v ∧ WSat F g' H' w' ∧ Q r H'

def AV.flat : AV → Option Value
  | .fl v => some v
  | _ => none
def AV.flats : List AV → Option (List Value)
  | [] => some []
  | .fl v :: r => (AV.flats r).map (v :: ·)
  | _ :: _ => none
/-- Of a flat value, or several flat results: the value itself. -/
def AV.det : AV → Option Value
  | .fl v => some v
  | .tup vs => (AV.flats vs).map fun l => .tuple l.toArray
  | _ => none

theorem AV.flats_eq {g : G} {vs : List AV} {l m : List Value} (hl : All2 (V1 g) vs l) (hm : AV.flats vs = some m) : l = m := by
  induction hl generalizing m with
  | nil => cases hm; rfl
  | @cons a b as bs h1 h2 ih =>
    cases a with
    | fl v =>
      simp only [AV.flats, Option.map_eq_some_iff] at hm
      obtain ⟨m', hm', rfl⟩ := hm
      rw [ih hm']
      have e : b = v := h1
      rw [e]
    | _ => cases hm

theorem AV.det_eq {g : G} {x : AV} {u v : Value} (hx : x.det = some u) (hv : V g x v) : v = u := by
  cases x with
  | fl v' => cases hx; exact hv
  | tup vs =>
    obtain ⟨l, rfl, hl⟩ := hv
    simp only [AV.det, Option.map_eq_some_iff] at hx
    obtain ⟨m, hm, rfl⟩ := hx
    rw [AV.flats_eq hl hm]
  | _ => cases hx

#print axioms AW.loop
end Go.Avl
