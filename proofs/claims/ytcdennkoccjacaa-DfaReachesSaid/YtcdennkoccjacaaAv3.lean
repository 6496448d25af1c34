/- Parts: Av16, Av17, Av18, Av19, Av20, Av21, Av22, Av23, Av24, Av25, Av26, Av27, Av28. -/
import Derived.Test.YtcdennkoccjacaaAv2
import Derived.Orders
import Derived.WalkSpells
import Derived.Laws.Externs
import Derived.ChangeKeysEq
import Derived.Maps.Keyed
import Derived.Carry
/- Regions whose operations come in any order: each operation shown once, from its own dependences. -/
namespace Go.Avl
open Go Go.RowKit
set_option linter.unusedVariables false

section
variable {P : Program} {o : Oper} {a : Act} {w : World} {next : Act → World → Prop} {Q : Exit → Act → World → Prop}
theorem wp_put (h : o.wp P a w next Q) : o.wp P a w (fun a' w' => next a' w' ∧ ∃ v, a'.tmps = (a.put o.dst v).tmps) Q := by
  unfold Oper.wp at *
  generalize (execOp a.eval o).run P w = r at *
  cases r with
  | ok n w' =>
    cases n <;> simp only [Oper.upon] at h ⊢
    all_goals first
      | exact ⟨h, _, rfl⟩
      | exact Calls.mono h (fun e w'' he => by cases e <;> first | exact ⟨he, _, rfl⟩ | exact he)
      | exact Rows.mono h (fun v w'' he => ⟨he, v, rfl⟩)
      | (refine ⟨h, undef, ?_⟩; cases o.dst <;> rfl)
  | halt x w' => cases x <;> simp only [Oper.upon] at h ⊢ <;> exact h
end

def needEnv (all : List (Oper × AV)) (o : Oper) : Env :=
  o.after.toList.filterMap fun e => if Region.binds .any e then (all[e.on]?).bind fun p => p.1.dst.map fun d => (d, p.2) else none
/-- What lay there before, as far as an operation reads it ahead of what turns it. -/
def keeps (all : List (Oper × AV)) (i t : Nat) : Bool := all.all fun p => (p.1.dst != some t) || p.1.after.toList.any fun e => Region.binds .any e && e.on == i
def outer (all : List (Oper × AV)) (ρ0 : Env) (i : Nat) : Env := ρ0.filter fun q => keeps all i q.1
def StepsX (P : Program) (N : Nat) (ops : Array Oper) (all : List (Oper × AV)) (ρ0 : Env) (H : Heap) : Nat → List (Oper × AV) → Prop
  | _, [] => True
  | k, p :: r => AO P N ops [p.1] (fun ρ' H' => (∃ d, p.1.dst = some d ∧ ρ'.lookup d = some p.2) ∧ Sub H H') (needEnv all p.1 ++ outer all ρ0 k) H ∧ StepsX P N ops all ρ0 H (k + 1) r
theorem lookup_filter {f : Nat → Bool} {t : Nat} {x : AV} : ∀ {ρ : Env}, (ρ.filter fun q => f q.1).lookup t = some x → f t = true ∧ ρ.lookup t = some x
  | [], h => by cases h
  | (u, y) :: r, h => by
    rw [List.filter_cons] at h
    rw [lookup_cons]
    by_cases c : f u = true
    · rw [if_pos c, lookup_cons] at h
      by_cases e : t = u
      · rw [if_pos e] at h ⊢; subst e; exact ⟨c, h⟩
      · rw [if_neg e] at h ⊢; exact lookup_filter h
    · rw [if_neg c] at h
      obtain ⟨h1, h2⟩ := lookup_filter h
      by_cases e : t = u
      · subst e; exact absurd h1 c
      · rw [if_neg e]; exact ⟨h1, h2⟩
def ends (all : List (Oper × AV)) : Env := all.filterMap fun p => p.1.dst.map fun d => (d, p.2)
def anyB (l : List Oper) : Bool :=
  (l.map (·.dst)).all (·.isSome) && decide ((l.map (·.dst)).Nodup) &&
  (List.range l.length).all fun i => ((l[i]?).map fun o => o.after.toList.all fun e => !(Region.binds .any e) || decide (e.on < i)).getD true

theorem StepsX.get {P : Program} {N : Nat} {ops : Array Oper} {all : List (Oper × AV)} {ρ0 : Env} {H : Heap} : ∀ {l : List (Oper × AV)} {k : Nat}, StepsX P N ops all ρ0 H k l → ∀ {i : Nat} {p}, l[i]? = some p →
    AO P N ops [p.1] (fun ρ' H' => (∃ d, p.1.dst = some d ∧ ρ'.lookup d = some p.2) ∧ Sub H H') (needEnv all p.1 ++ outer all ρ0 (k + i)) H
  | [], _, _, i, p, h => by simp at h
  | q :: r, _, hh, 0, p, h => by simp at h; subst h; exact hh.1
  | q :: r, k, hh, i + 1, p, h => by simp at h; have := StepsX.get hh.2 h; rwa [show k + 1 + i = k + (i + 1) by omega] at this

theorem lookup_mem {t : Nat} {x : AV} : ∀ {ρ : Env}, ρ.lookup t = some x → (t, x) ∈ ρ
  | [], h => by cases h
  | (u, y) :: r, h => by
    rw [lookup_cons] at h
    by_cases e : t = u
    · rw [if_pos e] at h; cases h; subst e; simp
    · rw [if_neg e] at h; exact List.mem_cons_of_mem _ (lookup_mem h)

structure AnyInv (F : Fr) (g : G) (ρ0 : Env) (H : Heap) (N : Nat) (ds : List Deferred) (all : List (Oper × AV)) (listed : Array Bool) (a : Act) (w : World) : Prop where
  inv : ∃ g', g.le g' ∧ (∀ t x, ρ0.lookup t = some x → (∀ (j : Nat) p, all[j]? = some p → listed.getD j false = true → p.1.dst ≠ some t) → V g' x (a.tmps.getD t undef)) ∧ (∀ (j : Nat) p d, all[j]? = some p → listed.getD j false = true → p.1.dst = some d → V g' p.2 (a.tmps.getD d undef)) ∧ WSat F g' H w
  size : a.tmps.size = N
  defers : a.defers = ds
  closed : ∀ (j : Nat) p, all[j]? = some p → listed.getD j false = true → ∀ e ∈ p.1.after.toList, Region.binds .any e = true → listed.getD e.on false = true

theorem ready_spec {ops : Array Oper} {listed : Array Bool} {i : Nat} (h : i ∈ Region.ready .any ops listed) : i < ops.size ∧ listed.getD i true = false ∧ ∃ o, ops[i]? = some o ∧ ∀ e ∈ o.after.toList, Region.binds .any e = true → listed.getD e.on false = true := by
  simp only [Region.ready, List.mem_filter, List.mem_range, Bool.and_eq_true] at h
  obtain ⟨h1, h2, h3⟩ := h
  refine ⟨h1, by simpa using h2, ops[i], by simp [h1], ?_⟩
  simp [h1] at h3
  intro e he hb
  obtain ⟨j, hj, rfl⟩ := List.getElem_of_mem he
  have := h3 j (by simpa using hj)
  simp at hb
  simpa [hb] using this
theorem ready_of {ops : Array Oper} {listed : Array Bool} {i : Nat} {o : Oper} (ho : ops[i]? = some o) (h2 : listed.getD i true = false) (h3 : ∀ e ∈ o.after.toList, Region.binds .any e = true → listed.getD e.on false = true) : i ∈ Region.ready .any ops listed := by
  have h1 : i < ops.size := (Array.getElem?_eq_some_iff.1 ho).1
  simp only [Region.ready, List.mem_filter, List.mem_range, Bool.and_eq_true]
  refine ⟨h1, by simpa using h2, ?_⟩
  rw [ho]
  simp only [Option.map_some, Option.getD_some, Array.all_eq_true]
  intro j hj
  have := h3 o.after[j] (by simp)
  by_cases hb : Region.binds .any o.after[j] = true
  · simp [this hb]
  · simp at hb; simp [hb]

theorem wp_conv {P : Program} {o : Oper} {a : Act} {w : World} {next next' : Act → World → Prop} {Q R : Exit → Act → World → Prop} (hQ : ∀ e a w, e ≠ .normal → Q e a w → R e a w) (hn : ∀ a w, next a w → next' a w)
    (h : o.wp P a w next Q ∨ (o.asks P a w ∧ LetsOut Q)) : o.wp P a w next' R ∨ (o.asks P a w ∧ LetsOut R) := by
  have hl : LetsOut Q → LetsOut R := fun ⟨a, w, h⟩ => ⟨a, w, hQ _ _ _ (by intro h; cases h) h⟩
  refine h.imp (fun h => ?_) fun h => ⟨h.1, hl h.2⟩
  unfold Oper.wp at *
  generalize (execOp a.eval o).run P w = r at *
  cases r with
  | ok n w' =>
    cases n <;> simp only [Oper.upon] at h ⊢
    all_goals first
      | exact hn _ _ h
      | exact Calls.mono h (fun e w'' he => by cases e <;> first | exact hn _ _ he | exact hQ _ _ _ (by intro h; cases h) he | exact hl he)
      | exact Rows.mono h (fun v w'' he => hn _ _ he)
      | exact h
  | halt x w' => cases x <;> simp only [Oper.upon] at h ⊢ <;> first | exact hQ _ _ _ (by intro h; cases h) h | exact h

theorem getD_put {a : Act} {d t : Nat} {v : Value} (h : t ≠ d) : (a.put (some d) v).tmps.getD t undef = a.tmps.getD t undef := by
  show (a.tmps.setIfInBounds d v).getD t undef = _
  rw [Array.getD_eq_getD_getElem?, Array.getD_eq_getD_getElem?, Array.getElem?_setIfInBounds, if_neg (fun e => h e.symm)]
theorem getD_set {x : Array Bool} {i j : Nat} {c : Bool} (h : (x.setIfInBounds i true).getD j c = true) : j = i ∨ x.getD j c = true := by
  by_cases e : j = i
  · exact .inl e
  · right
    rw [Array.getD_eq_getD_getElem?, Array.getElem?_setIfInBounds, if_neg (fun h => e h.symm)] at h
    rw [Array.getD_eq_getD_getElem?]; exact h

structure AnyOK (l : List Oper) : Prop where
  dst : ∀ (i : Nat) (o : Oper), l[i]? = some o → ∃ d, o.dst = some d
  nodup : ∀ (i j : Nat) (o p : Oper) (d : Nat), l[i]? = some o → l[j]? = some p → o.dst = some d → p.dst = some d → i = j
  back : ∀ (i : Nat) (o : Oper), l[i]? = some o → ∀ e ∈ o.after.toList, Region.binds .any e = true → e.on < i
theorem anyB_ok {l : List Oper} (h : anyB l = true) : AnyOK l := by
  simp only [anyB, Bool.and_eq_true, List.all_eq_true, decide_eq_true_eq] at h
  obtain ⟨⟨h1, h2⟩, h4⟩ := h
  refine ⟨fun i o ho => ?_, fun i j o p d hi hj e1 e2 => ?_, fun i o ho e he => ?_⟩
  · have hm : o.dst ∈ l.map (·.dst) := List.mem_map.2 ⟨o, List.mem_of_getElem? ho, rfl⟩
    obtain ⟨d, hd⟩ := Option.isSome_iff_exists.1 (h1 _ hm)
    exact ⟨d, hd⟩
  · obtain ⟨hi', rfl⟩ := List.getElem?_eq_some_iff.1 hi
    obtain ⟨hj', rfl⟩ := List.getElem?_eq_some_iff.1 hj
    have hp := List.pairwise_iff_getElem.1 h2
    rcases Nat.lt_trichotomy i j with q | q | q
    · exact absurd (by rw [List.getElem_map, List.getElem_map]; exact e1.trans e2.symm) (hp i j (by simpa using hi') (by simpa using hj') q)
    · exact q
    · exact absurd (by rw [List.getElem_map, List.getElem_map]; exact e2.trans e1.symm) (hp j i (by simpa using hj') (by simpa using hi') q)
  · have hlt := (List.getElem?_eq_some_iff.1 ho).1
    have := h4 i (List.mem_range.2 hlt)
    rw [ho] at this
    simp only [Option.map_some, Option.getD_some, List.all_eq_true] at this
    exact fun hb => by have := this e he; rw [hb] at this; simpa using this

section
variable {P : Program} {N : Nat} {F : Fr} {g : G} {ρ0 : Env} {H : Heap} {ds : List Deferred} {l : List Oper} {xs : List AV} {R : Exit → Act → World → Prop}
theorem zip_get (hlen : xs.length = l.length) {i : Nat} {o : Oper} (h : l[i]? = some o) : ∃ x, (l.zip xs)[i]? = some (o, x) := by
  have hi := (List.getElem?_eq_some_iff.1 h).1
  refine ⟨xs[i], ?_⟩
  rw [List.getElem?_zip_eq_some]; exact ⟨h, List.getElem?_eq_getElem (by omega)⟩
theorem zip_fst {i : Nat} {p : Oper × AV} (h : (l.zip xs)[i]? = some p) : l[i]? = some p.1 := (List.getElem?_zip_eq_some.1 h).1

theorem any_step (hlen : xs.length = l.length) (hB : AnyOK l) (hS : StepsX P N l.toArray (l.zip xs) ρ0 H 0 (l.zip xs)) {listed : Array Bool} {a : Act} {w : World} (inv : AnyInv F g ρ0 H N ds (l.zip xs) listed a w) {i : Nat} (hi : i ∈ Region.ready .any l.toArray listed) :
    wpOp P l.toArray R i (fun a' w' => AnyInv F g ρ0 H N ds (l.zip xs) (listed.setIfInBounds i true) a' w') a w := by
  obtain ⟨k1, k2, o, ho, k3⟩ := ready_spec hi
  have hol : l[i]? = some o := by simpa using ho
  obtain ⟨x, hx⟩ := zip_get hlen hol
  obtain ⟨d, hd⟩ := hB.dst i o hol
  obtain ⟨g', q1, q2, q3, q4⟩ := inv.inv
  have hao := hS.get hx
  rw [Nat.zero_add] at hao
  have hes : ESat g' (needEnv (l.zip xs) o ++ outer (l.zip xs) ρ0 i) a := by
    intro t y hy
    rw [lookup_append'] at hy
    cases hn : (needEnv (l.zip xs) o).lookup t with
    | none =>
      rw [hn] at hy
      obtain ⟨u1, u2⟩ := lookup_filter (f := keeps (l.zip xs) i) (show (outer (l.zip xs) ρ0 i).lookup t = some y by simpa using hy)
      refine q2 t y u2 fun j p hp hl hdt => ?_
      have := List.all_eq_true.1 u1 p (List.mem_of_getElem? hp)
      simp only [Bool.or_eq_true, bne_iff_ne, ne_eq, hdt, not_true, false_or, List.any_eq_true, Bool.and_eq_true, beq_iff_eq] at this
      obtain ⟨e, he, hb, hon⟩ := this
      have hc := inv.closed j p hp hl e he hb
      rw [hon] at hc
      rw [Array.getD_eq_getD_getElem?] at hc k2
      cases hz : listed[i]? with
      | none => rw [hz] at hc; cases hc
      | some b => rw [hz] at hc k2; simp at hc k2; rw [hc] at k2; cases k2
    | some z =>
      rw [hn] at hy; cases hy
      have hm := lookup_mem hn
      simp only [needEnv, List.mem_filterMap] at hm
      obtain ⟨e, he, hf⟩ := hm
      by_cases hb : Region.binds .any e = true
      · rw [if_pos hb] at hf
        cases hp : (l.zip xs)[e.on]? with
        | none => rw [hp] at hf; cases hf
        | some p =>
          rw [hp] at hf
          simp only [Option.bind_some, Option.map_eq_some_iff] at hf
          obtain ⟨d', hd', he'⟩ := hf
          cases he'
          exact q3 e.on p _ hp (k3 e he hb) hd'
      · rw [if_neg hb] at hf; cases hf
  have wl := hao F g' a w (fun e a' w' => match e with
    | .normal => ∃ g'' ρ' H', g'.le g'' ∧ ESat g'' ρ' a' ∧ a'.tmps.size = N ∧ a'.defers = a.defers ∧ WSat F g'' H' w' ∧ (∃ d, o.dst = some d ∧ ρ'.lookup d = some x) ∧ Sub H H'
    | e => R e a' w') hes inv.size q4 (fun g'' ρ' H' a' w' j1 j2 j3 j4 j5 j6 => ⟨g'', ρ', H', j1, j2, j3, j4, j5, j6⟩)
  have fin : ∀ a' w', (∃ g'' ρ' H', g'.le g'' ∧ ESat g'' ρ' a' ∧ a'.tmps.size = N ∧ a'.defers = a.defers ∧ WSat F g'' H' w' ∧ (∃ d, o.dst = some d ∧ ρ'.lookup d = some x) ∧ Sub H H') → (∃ v, a'.tmps = (a.put o.dst v).tmps) →
      AnyInv F g ρ0 H N ds (l.zip xs) (listed.setIfInBounds i true) a' w' := by
    rintro a' w' ⟨g'', ρ', H', j1, j2, j3, j4, j5, ⟨d', hd', j6⟩, j7⟩ ⟨v, hv⟩
    obtain rfl : d = d' := Option.some.inj (hd.symm.trans hd')
    rw [hd] at hv
    have old : ∀ t, t ≠ d → a'.tmps.getD t undef = a.tmps.getD t undef := fun t ht => by rw [hv]; exact getD_put ht
    have stays : ∀ j, listed.getD j false = true → (listed.setIfInBounds i true).getD j false = true := fun j hj => by
      rw [Array.getD_eq_getD_getElem?] at hj ⊢
      rw [Array.getElem?_setIfInBounds]
      by_cases e : i = j
      · subst e
        cases hz : listed[i]? with
        | none => rw [hz] at hj; cases hj
        | some b => rw [if_pos rfl, if_pos (Array.getElem?_eq_some_iff.1 hz).1]; rfl
      · rw [if_neg e]; exact hj
    have hlt : i < listed.size := by
      rw [Array.getD_eq_getD_getElem?] at k2
      cases hz : listed[i]? with
      | none => rw [hz] at k2; cases k2
      | some b => exact (Array.getElem?_eq_some_iff.1 hz).1
    have now : (listed.setIfInBounds i true).getD i false = true := by
      rw [Array.getD_eq_getD_getElem?, Array.getElem?_setIfInBounds, if_pos rfl, if_pos hlt]; rfl
    refine ⟨⟨g'', q1.trans j1, ?_, ?_, j5.sub j7⟩, j3, j4.trans inv.defers, fun j p hp hl e he hb => ?_⟩
    · intro t y hy hfree
      have ht : t ≠ d := by
        rintro rfl
        exact hfree i _ hx now hd
      rw [old t ht]; exact (q2 t y hy fun j p hp hl => hfree j p hp (stays j hl)).mono j1
    · intro j p e hp hl he
      by_cases hji : j = i
      · subst hji
        rw [hx] at hp; cases hp
        rw [hd] at he; cases he
        exact j2 d x j6
      · have hne : e ≠ d := by
          rintro rfl
          exact hji (hB.nodup j i p.1 o e (zip_fst hp) hol he hd)
        rw [old e hne]
        exact (q3 j p e hp ((getD_set hl).resolve_left hji) he).mono j1
    · rcases getD_set hl with rfl | h'
      · rw [hx] at hp; cases hp
        exact stays _ (k3 e he hb)
      · exact stays _ (inv.closed j p hp h' e he hb)
  unfold wpOp
  rw [ho]
  simp only [wpList] at wl
  show (if Region.wanted o (yielded l.toArray a.tmps) = true then _ else _)
  by_cases hw : Region.wanted o (yielded l.toArray a.tmps) = true
  · rw [if_pos hw] at wl ⊢
    refine wp_conv (Q := fun e a' w' => match e with
      | .normal => ∃ g'' ρ' H', g'.le g'' ∧ ESat g'' ρ' a' ∧ a'.tmps.size = N ∧ a'.defers = a.defers ∧ WSat F g'' H' w' ∧ (∃ d, o.dst = some d ∧ ρ'.lookup d = some x) ∧ Sub H H'
      | e => R e a' w') (fun e a w he h => by cases e <;> first | exact absurd rfl he | exact h) (fun a' w' h => fin a' w' h.1 h.2) (wl.imp wp_put id)
  · rw [if_neg hw] at wl ⊢
    exact fin _ _ wl ⟨undef, rfl⟩
theorem all_listed {listed : Array Bool} (hB : AnyOK l) (hsz : listed.size = l.length) (h : Region.ready .any l.toArray listed = []) : ∀ i, i < l.length → listed.getD i true = true := by
  intro i
  induction i using Nat.strongRecOn with
  | _ i ih =>
    intro hi
    cases hc : listed.getD i true with
    | true => rfl
    | false =>
      exfalso
      have hr : i ∈ Region.ready .any l.toArray listed := ready_of (o := l[i]) (by simp [hi]) hc (fun e he hbd => by
        have hlt := hB.back i l[i] (by simp [hi]) e he hbd
        have := ih e.on hlt (by omega)
        rw [Array.getD_eq_getD_getElem?, Array.getElem?_eq_getElem (by omega)] at this ⊢
        exact this)
      rw [h] at hr; cases hr
theorem any_main (hlen : xs.length = l.length) (hB : AnyOK l) (hS : StepsX P N l.toArray (l.zip xs) ρ0 H 0 (l.zip xs))
    (hk : ∀ a' w', AnyInv F g ρ0 H N ds (l.zip xs) (Array.replicate l.length true) a' w' → R .normal a' w') : ∀ (fuel : Nat) (listed : Array Bool) (a : Act) (w : World), listed.size = l.length → listed.toList.count false ≤ fuel → AnyInv F g ρ0 H N ds (l.zip xs) listed a w →
    wpAny P .any l.toArray R fuel listed a w := by
  have done : ∀ (listed : Array Bool) (a : Act) (w : World), listed.size = l.length → Region.ready .any l.toArray listed = [] → AnyInv F g ρ0 H N ds (l.zip xs) listed a w → R .normal a w := by
    intro listed a w hsz hr inv
    have on : ∀ j, j < l.length → listed.getD j false = true := fun j hj => by
      have := all_listed hB hsz hr j hj
      rw [Array.getD_eq_getD_getElem?, Array.getElem?_eq_getElem (by omega)] at this ⊢
      exact this
    have tr : ∀ j, (Array.replicate l.length true).getD j false = true → j < l.length := fun j hj => by
      rw [Array.getD_eq_getD_getElem?] at hj
      by_cases e : j < l.length
      · exact e
      · simp [e] at hj
    refine hk a w ⟨?_, inv.size, inv.defers, fun j p hp hl e he hb => ?_⟩
    · obtain ⟨g', q1, q2, q3, q4⟩ := inv.inv
      exact ⟨g', q1, fun t x hx hf => q2 t x hx fun j p hp _ => hf j p hp (by
        have hj : j < l.length := (List.getElem?_eq_some_iff.1 (zip_fst hp)).1
        rw [Array.getD_eq_getD_getElem?]; simp [hj]), fun j p d hp hl hd => q3 j p d hp (on j (tr j hl)) hd, q4⟩
    · have hj := tr j hl
      have := hB.back j p.1 (zip_fst hp) e he hb
      rw [Array.getD_eq_getD_getElem?]; simp [show e.on < l.length by omega]
  intro fuel
  induction fuel with
  | zero =>
    intro listed a w hsz hc inv
    have hr : Region.ready .any l.toArray listed = [] := by
      cases e : Region.ready .any l.toArray listed with
      | nil => rfl
      | cons i r =>
        exfalso
        obtain ⟨k1, k2, _⟩ := ready_spec (i := i) (by rw [e]; simp)
        have hi : i < listed.size := by simpa [hsz] using k1
        rw [Array.getD_eq_getD_getElem?, Array.getElem?_eq_getElem hi] at k2
        have : false ∈ listed.toList := by rw [← show listed[i] = false from k2]; simp
        have := List.count_pos_iff.2 this
        omega
    exact ⟨hr, done listed a w hsz hr inv⟩
  | succ fuel ih =>
    intro listed a w hsz hc inv
    refine ⟨fun hr => done listed a w hsz hr inv, fun i hi => wpOp_mono (fun a' w' h => ih _ a' w' (by simpa using hsz) ?_ h) (any_step hlen hB hS inv hi)⟩
    obtain ⟨k1, k2, _⟩ := ready_spec hi
    have hi' : i < listed.size := by simpa [hsz] using k1
    rw [Array.getD_eq_getD_getElem?, Array.getElem?_eq_getElem hi'] at k2
    have hf : listed.toList[i]'(by simpa using hi') = false := by simpa using k2
    have e2 : (listed.toList.set i true).count false = listed.toList.count false - 1 + 0 := by
      rw [List.count_set (by simpa using hi'), hf]; rfl
    have : false ∈ listed.toList := by rw [← hf]; exact List.getElem_mem _
    have := List.count_pos_iff.2 this
    rw [Array.toList_setIfInBounds, e2]
    omega
end

theorem lookup_none_mem {t : Nat} {x : AV} : ∀ {ρ : Env}, ρ.lookup t = none → (t, x) ∈ ρ → False
  | [], _, h => by cases h
  | (u, y) :: r, h, hm => by
    rw [lookup_cons] at h
    by_cases e : t = u
    · rw [if_pos e] at h; cases h
    · rw [if_neg e] at h
      rcases List.mem_cons.1 hm with h' | h'
      · cases h'; exact e rfl
      · exact lookup_none_mem h h'
theorem ends_get {all : List (Oper × AV)} {t : Nat} {x : AV} (h : (ends all).lookup t = some x) : ∃ (j : Nat) (p : Oper × AV), all[j]? = some p ∧ p.1.dst = some t ∧ p.2 = x := by
  have hm := lookup_mem h
  simp only [ends, List.mem_filterMap, Option.map_eq_some_iff] at hm
  obtain ⟨p, hp, d, hd, he⟩ := hm
  cases he
  obtain ⟨j, hj⟩ := List.getElem?_of_mem hp
  exact ⟨j, p, hj, hd, rfl⟩

theorem AW.regAny {P : Program} {N : Nat} {ρ : Env} {H : Heap} {Q : Exit → Env → Heap → Prop} {id : Nat} {l : List Oper} (hm : P.follows .mixedOrders = true) (hB : anyB l = true) (xs : List AV) (ρ0 : Env) (hs : ESub ρ0 ρ) (hlen : xs.length = l.length)
    (h : StepsX P N l.toArray (l.zip xs) ρ0 H 0 (l.zip xs)) (ρ' : Env) (H' : Heap) (he : ESub ρ' (ends (l.zip xs) ++ ρ0)) (hH : Sub H' H) (hk : Q .normal ρ' H') : AW P N (.region id l.toArray true) Q ρ H := by
  intro F g a w R h1 h2 h3 h4
  refine wp_region_any hm ?_
  have hB' := anyB_ok hB
  have h3' : WSat F g H { w with drawn := w.drawn + 1 } := h3.of_below (Below.refl _ _).drew
  have no : ∀ (j : Nat), (Array.replicate l.length false).getD j false = true → False := fun j hl => by
    rw [Array.getD_eq_getD_getElem?] at hl
    by_cases hj : j < l.length
    · simp [hj] at hl
    · simp [hj] at hl
  refine any_main (F := F) (g := g) (ds := a.defers) hlen hB' h (fun a' w' inv => ?_) _ _ a _ (by simp) (by simp) ⟨⟨g, .refl g, fun t x hx _ => hs.sat h1 t x hx, fun j p d _ hl _ => (no j hl).elim, h3'⟩, h2, rfl, fun j p _ hl => (no j hl).elim⟩
  obtain ⟨g', q1, q2, q3, q4⟩ := inv.inv
  refine h4 _ g' ρ' H' a' w' q1 (he.sat ?_) inv.size inv.defers (q4.sub hH) hk
  intro t y hy
  rw [lookup_append'] at hy
  cases hn : (ends (l.zip xs)).lookup t with
  | none =>
    rw [hn] at hy
    refine q2 t y (by simpa using hy) fun j p hp _ hd => ?_
    have : (t, p.2) ∈ ends (l.zip xs) := by
      simp only [ends, List.mem_filterMap, Option.map_eq_some_iff]
      exact ⟨p, List.mem_of_getElem? hp, t, hd, rfl⟩
    exact lookup_none_mem hn this
  | some z =>
    rw [hn] at hy; cases hy
    obtain ⟨j, p, hp, hd, rfl⟩ := ends_get hn
    refine q3 j p t hp ?_ hd
    have hj : j < l.length := (List.getElem?_eq_some_iff.1 (zip_fst hp)).1
    rw [Array.getD_eq_getD_getElem?]; simp [hj]
theorem AW.toM {P : Program} {N : Nat} {ρ : Env} {H : Heap} {Q : Exit → Env → Heap → Prop} {c : Code} (ρ' : Env) (H' : Heap) (h : AW P N c (fun e ρ2 H2 => e = .normal ∧ ρ2 = ρ' ∧ H2 = H') ρ H) (hk : Q .normal ρ' H') : AW P N c Q ρ H :=
  fun F g a w R h1 h2 h3 h4 => h F g a w R h1 h2 h3 fun e g' ρ2 H2 a' w' k1 k2 k3 k4 k5 k6 => by
    obtain ⟨rfl, rfl, rfl⟩ := k6
    exact h4 _ g' _ _ a' w' k1 k2 k3 k4 k5 hk
theorem lset_own {α : Type} {g : G} {n : Nat} {l : List α} {i : Int} {x : α} {v : Value} (h : V g (.own n 0 l.length) v) : V g (.own n 0 (lset l i x).length) v := by
  have e : (lset l i x).length = l.length := by simp [lset]
  rw [e]; exact h
end Go.Avl
/- Rows compared with nil. -/
namespace Go.Avl
open Go Go.RowKit
set_option linter.unusedVariables false
section
variable {P : Program} {N : Nat} {ops : Array Oper} {o : Oper} {rest : List Oper} {K : Env → Heap → Prop} {ρ : Env} {H : Heap}
/-- Whether a read-only row is nil nobody can tell; if it is, it has no elements. -/
theorem AO.nilFz {T T' E : TypeId} {y : Operand} {z : Nat} {els : List AV} {n c : Nat} (hg : o.guard = none) (d : Nat) (hd : o.dst = some d) (hN : d < N) (ho : o.op = .binOp .eql T y (.const (.slice none n c)) T') (hy : Env.ev ρ y = some (.fz z els)) (ht : P.underlying T = some (.slice E))
    (h : ∀ b : Bool, (b = true → els = []) → AO P N ops rest K ((d, .fl (.bool b)) :: ρ) H) : AO P N ops (o :: rest) K ρ H :=
  AO.step hg d hd hN fun F g a w s h3 => by
    have e1 : Sim g (.fz z els) [a.eval y] := s.ev hy
    have key : ∃ (A : Option Addr) (n' c' : Nat), a.eval y = .slice A n' c' ∧ (A.isNone = true → els = []) := by
      generalize a.eval y = v at e1
      cases e1 with
      | fz => exact ⟨_, _, _, rfl, fun h => by cases h⟩
      | fz0 => exact ⟨_, _, _, rfl, fun _ => rfl⟩
    obtain ⟨A, n', c', e2, e3⟩ := key
    refine ⟨.bool A.isNone, g, w, .fl (.bool A.isNone), H, ?_, .refl g, rfl, h3, h _ e3⟩
    have e4 : a.eval (.const (.slice none n c)) = .slice none n c := rfl
    have e5 : ∀ m, (Op.equalIn (m + 1) T (.slice A n' c') (.slice none n c)).run P w = .ok A.isNone w := by
      intro m; cases A <;> simp [Op.equalIn, run_underlying ht]
    simp [execOp, ho, e2, e4, eqGuard, binOp, Op.equal, Op.maxDepth, e5 9999]
end
end Go.Avl
/- Functions without a body, where they are called. -/
namespace Go.Avl
open Go Go.RowKit
set_option linter.unusedVariables false
section
variable {P : Program} {o : Oper} {ρ : Env} {H : Heap}

/-- A function without a body, which answers here and now. -/
def ExtOK (P : Program) (f : FuncId) (e : Array Value → Sem Value) : Prop := ∃ fn, P.funcs[f]? = some fn ∧ (fn.name == "runtime.NumGoroutine") = false ∧ fn.body.isNone = true ∧ Extern.findNext fn = none ∧ Extern.find fn = some e

theorem evs_flat {g : G} {a : Act} (s : ESat g ρ a) : ∀ {ys : List Operand} {xs : List AV} {vs : List Value}, evs ρ ys xs → AV.flats xs = some vs → ys.map a.eval = vs
  | [], [], vs, _, h => by cases h; rfl
  | y :: ys, x :: xs, vs, h, hv => by
    cases x with
    | fl v =>
      simp only [AV.flats, Option.map_eq_some_iff] at hv
      obtain ⟨m, hm, rfl⟩ := hv
      have e : a.eval y = v := s.ev h.1
      rw [List.map_cons, e, evs_flat s h.2.2 hm]
    | _ => cases hv
  | [], _ :: _, _, h, _ => h.elim
  | _ :: _, [], _, h, _ => h.elim

theorem Calm.ext {fo : Operand} {as : List Operand} {A : Array TypeId} {f : FuncId} {e : Array Value → Sem Value} (args : List AV) (vs : List Value) {v : Value} (ho : o.op = .call { callee := .value fo, args := as.toArray, argTypes := A }) (hf : Env.ev ρ fo = some (.fl (.func (.func f) #[] #[])))
    (hok : ExtOK P f e) (ha : evs ρ as args) (hv : AV.flats args = some vs) (hr : ∀ w, (e vs.toArray).run P w = .ok v w) : Calm P o ρ H (.fl v) :=
  Calm.of_flat fun g a s w => by
    obtain ⟨fn, h1, h2, h3, h4, h5⟩ := hok
    have hfo : a.eval fo = .func (.func f) #[] #[] := s.ev hf
    have key := run_callFunc_extern h1 h2 h3 h4 h5 (as.map a.eval).toArray w
    rw [evs_flat s ha hv, hr] at key
    simp [execOp, ho, resolve, hfo, Deferred.ofValue, invoke, evs_flat s ha hv, key]

/-- The first place of a byte; -1. -/
def idxByte (s : ByteArray) (c : Int) : Int := firstIdx s c.toNat.toUInt8
theorem run_idxByte {P : Program} (s : ByteArray) (c : Int) (w : World) : (Extern.BytealgIndexByte.indexByte #[.string s, .int .u8 c]).run P w = .ok (.int .i64 (idxByte s c)) w := run_indexByte_string s c w
/-- How often a byte stands in a text. -/
def cntByte (s : ByteArray) (c : Int) : Int := s.foldl (fun (n : Int) x => if x == c.toNat.toUInt8 then n + 1 else n) ((0 : Nat) : Int)
theorem run_cntByte {P : Program} (s : ByteArray) (c : Int) (w : World) : (Extern.BytealgCount.count #[.string s, .int .u8 c]).run P w = .ok (.int .i64 (cntByte s c)) w := by
  change Sem.run P (do
    let b ← Extern.Bytes.bytesOf (.string s)
    let c' ← Extern.Bytes.asByte (.int .u8 c)
    pure (goInt (b.foldl (fun (n : Int) x => if x == c' then n + 1 else n) ((0 : Nat) : Int)))) w = _
  simp [Extern.Bytes.bytesOf, Extern.Bytes.asByte, goInt, cntByte]
end
end Go.Avl
/- Texts and their bytes: plain facts. -/
namespace Go.Avl
open Go Go.RowKit
set_option linter.all false

theorem byteAt_u8 (s : ByteArray) (i : Int) : 0 ≤ byteAt s i ∧ byteAt s i ≤ 255 := by
  unfold byteAt
  split
  · have := (s[i.toNat]).toNat_lt; omega
  · omega
theorem byteAt_extract (s : ByteArray) (i j x : Int) (h0 : 0 ≤ i) (h1 : i ≤ j) (h2 : j ≤ (s.size : Int)) (hx : 0 ≤ x) (hx1 : x < j - i) : byteAt (s.extract i.toNat j.toNat) x = byteAt s (i + x) := by
  have hs : (s.extract i.toNat j.toNat).size = j.toNat - i.toNat := by rw [ByteArray.size_extract]; omega
  unfold byteAt
  rw [dif_pos (by omega), dif_pos (by omega)]
  have : (i + x).toNat = i.toNat + x.toNat := by omega
  simp only [this]
  rw [ByteArray.getElem_extract]

def ints (s : ByteArray) : List Int := s.data.toList.map fun b => (b.toNat : Int)
theorem ints_length (s : ByteArray) : (ints s).length = s.size := by simp [ints]
theorem ints_append (s t : ByteArray) : ints (s ++ t) = ints s ++ ints t := by simp [ints]
theorem strOf_ints (s : ByteArray) : strOfNums (ints s) = s := by
  apply ByteArray.ext; apply Array.ext'; simp [strOfNums, ints, Function.comp_def]
theorem strOf_cons (a : Int) (l : List Int) : strOfNums (a :: l) = strOfNums [a] ++ strOfNums l := by
  apply ByteArray.ext; apply Array.ext'; simp [strOfNums]
theorem strOf_inj {l m : List Int} (hl : ∀ x ∈ l, 0 ≤ x ∧ x ≤ 255) (hm : ∀ x ∈ m, 0 ≤ x ∧ x ≤ 255) (h : strOfNums l = strOfNums m) : l = m := by
  have h1 := congrArg (fun s : ByteArray => s.data.toList) h
  simp only [strOfNums_data] at h1
  have key : ∀ (l : List Int), (∀ x ∈ l, 0 ≤ x ∧ x ≤ 255) → ((l.map fun n => UInt8.ofNat n.toNat).map fun b => (b.toNat : Int)) = l := by
    intro l hl
    rw [List.map_map]
    conv => rhs; rw [← List.map_id l]
    apply List.map_congr_left
    intro x hx
    have := hl x hx
    simp [UInt8.toNat_ofNat']; omega
  rw [← key l hl, ← key m hm, h1]
theorem as_bytes (t : ByteArray) : t = strOfNums ((List.range t.size).map fun i : Nat => byteAt t (i : Int)) := by
  apply ByteArray.ext; apply Array.ext'
  rw [strOfNums_data]
  apply List.ext_getElem
  · simp
  · intro i h1 h2
    have h3 : i < t.size := by simpa using h1
    have e : byteAt t (i : Int) = ((t[i]'h3).toNat : Int) := by unfold byteAt; rw [dif_pos (show (i : Int).toNat < t.size by omega)]; rfl
    simp [e]; rfl
theorem extract_bytes (s : ByteArray) (n : Nat) (h : n ≤ s.size) : s.extract 0 n = strOfNums ((List.range n).map fun i : Nat => byteAt s (i : Int)) := by
  have hs : (s.extract 0 n).size = n := by rw [ByteArray.size_extract]; omega
  rw [as_bytes (s.extract 0 n), hs]
  congr 1
  apply List.map_congr_left
  intro i hi
  have hi := List.mem_range.1 hi
  have := byteAt_extract s 0 (n : Int) (i : Int) (by omega) (by omega) (by omega) (by omega) (by omega)
  simpa using this
theorem byteAt_app (a b : ByteArray) (j : Nat) (h : j < a.size) : byteAt (a ++ b) j = byteAt a j := by
  unfold byteAt
  have h1 : (j : Int).toNat < a.size := by omega
  have h2 : (j : Int).toNat < (a ++ b).size := by rw [ByteArray.size_append]; omega
  rw [dif_pos h2, dif_pos h1, ByteArray.getElem_append_left h1]
theorem byteAt_strOf (l : List Int) (h : ∀ x ∈ l, 0 ≤ x ∧ x ≤ 255) (i : Nat) (hi : i < l.length) : byteAt (strOfNums l) (i : Int) = l[i] := by
  have hz : (strOfNums l).size = l.length := strOfNums_size l
  have e := as_bytes (strOfNums l)
  rw [hz] at e
  have := strOf_inj (l := l) (m := (List.range l.length).map fun i : Nat => byteAt (strOfNums l) (i : Int)) h (by
    intro x hx
    obtain ⟨j, _, rfl⟩ := List.mem_map.1 hx
    exact byteAt_u8 _ _) e
  have h2 := List.getElem_of_eq this hi
  rw [h2]; simp
theorem byteAt_right (a b : ByteArray) (j : Nat) (h : j < b.size) : byteAt (a ++ b) ((a.size + j : Nat) : Int) = byteAt b j := by
  unfold byteAt
  have h1 : (j : Int).toNat < b.size := by omega
  have h2 : ((a.size + j : Nat) : Int).toNat < (a ++ b).size := by rw [ByteArray.size_append]; omega
  rw [dif_pos h2, dif_pos h1]
  have h3 : ((a.size + j : Nat) : Int).toNat = a.size + j := by omega
  have h4 : (j : Int).toNat = j := by omega
  have e : (a ++ b)[((a.size + j : Nat) : Int).toNat]'h2 = (a ++ b)[a.size + j]'(by omega) := by congr 1
  rw [e, ByteArray.getElem_append_right (by omega)]
  congr 2
  simp
theorem toList_app (a b : ByteArray) : (a ++ b).data.toList = a.data.toList ++ b.data.toList := by simp
theorem app_assoc (a b c : ByteArray) : a ++ b ++ c = a ++ (b ++ c) := by
  apply ByteArray.ext; apply Array.ext'; simp
theorem extract_right (a b : ByteArray) : (a ++ b).extract a.size (a ++ b).size = b := by
  have ha : a.data.toList.length = a.size := Array.length_toList
  have hb : b.data.toList.length = b.size := Array.length_toList
  apply ByteArray.ext; apply Array.ext'
  rw [ByteArray.data_extract]
  simp [ByteArray.size_append]
  rw [List.drop_eq_nil_of_le (by omega), List.take_nil, List.nil_append, List.take_of_length_le (by omega)]
theorem emp_size : (ByteArray.mk #[]).size = 0 := rfl
theorem u8_wf {n : Int} (h : (Lit.int .u8 n).wf = true) : 0 ≤ n ∧ n ≤ 255 := by
  simpa [Lit.wf, show IntKind.u8.min = 0 from rfl, show IntKind.u8.max = 255 from rfl] using h
theorem i64_wf {n : Int} (h : (Lit.int .i64 n).wf = true) : -9223372036854775808 ≤ n ∧ n ≤ 9223372036854775807 := by
  simpa [Lit.wf, show IntKind.i64.min = -9223372036854775808 from rfl, show IntKind.i64.max = 9223372036854775807 from rfl] using h
end Go.Avl
/- Rows with room ahead (slices.Grow of nil); calls over objects. -/
namespace Go.Avl
open Go Go.RowKit
set_option linter.all false
section
variable {P : Program} {N : Nat} {ops : Array Oper} {o : Oper} {rest : List Oper} {K : Env → Heap → Prop} {ρ : Env} {H : Heap}

theorem run_append_make {w : World} {t u ty e : TypeId} {i : TypeInfo} {k : IntKind} {z : Value} (ht : P.underlying t = some (.slice e)) (hu : P.underlying u = some (.int k)) (hi : P.info? e = some i) (hz : i.zero = some z)
    {n : Nat} (hn : 0 < n) (hs : 0 < i.size) (hb : n * i.bytes ≤ 140737488355328) (h63 : n ≤ 9223372036854775807) :
    (Builtin.append_ #[t, u] ty #[.slice none 0 0, .int .i64 n]).run P w =
      .ok (.slice (some ⟨w.heap.size, 0, none⟩) n (grownCap w n 0 e)) (w.drew.alloc (.cells (Builtin.zeroCells z.cells n ++ Builtin.zeroCells z.cells (grownCap w n 0 e - n)) e)) := by
  have hw : IntKind.i64.wrap (n : Int) = n := by have := w64_id (n := (n : Int)) (by omega) (by omega); exact this
  have h0 : ¬ ((n : Int) < 0) := by omega
  have h48 : ¬ ((281474976710656 : Int) < (n : Int) * (i.bytes : Int)) := by
    have : ((n * i.bytes : Nat) : Int) ≤ 140737488355328 := by omega
    rw [Int.natCast_mul] at this; omega
  have hn0 : ¬ n = 0 := by omega
  have hs0 : ¬ i.size = 0 := by omega
  have h63' : ¬ (9223372036854775807 < (n : Int)) := by omega
  have hcap : Builtin.nextslicecap n 0 = n := by unfold Builtin.nextslicecap; rw [if_pos (by omega)]
  have h48' : ¬ (281474976710656 < n * i.bytes) := by omega
  have ha : (asInt (.int .i64 (n : Int))).run P w = .ok (n : Int) w := rfl
  have hn1 : ¬ n ≤ 0 := by omega
  have hns : ¬ (n = 0 ∨ i.size = 0) := by omega
  simp [Builtin.append_, run_underlying ht, run_underlying hu, sizeOf, typeInfo, zeroValue, hi, hz, ha, hw, h0, h48, hn0, hn1, hns, hs0, h63', hcap, h48', Question.forced, newRow, grownCap, Builtin.firstCells, loadCells, loadCellsFrom, show IntKind.i64.max = 9223372036854775807 from rfl]
  intro hc; exact absurd hc (Nat.ne_of_gt (Nat.mul_pos hn hs))

/-- append(nil, make([]E, n)...): room for n, which the slice then does not show. -/
theorem AO.growNil {T U E : TypeId} {s y : Operand} {z by' : Nat} {n : Int} {k : IntKind} {zl : List Value} (hg : o.guard = none) (d : Nat) (hd : o.dst = some d) (hN : d < N)
    (ho : o.op = .call { callee := .builtin .append, args := #[s, y], argTypes := #[T, U] }) (hs : Env.ev ρ s = some (.fl (.slice none 0 0))) (hy : Env.ev ρ y = some (.fl (.int .i64 n)))
    (ht : P.underlying T = some (.slice E)) (hu : P.underlying U = some (.int k)) (hz : tySize P E = some z) (hby : tyBytes P E = some by') (hzero : tyZero P E = some zl) (hzl : zl.length = z) (hz0 : 0 < z)
    (h0 : 0 < n ∧ n * by' ≤ 140737488355328 ∧ n ≤ 9223372036854775807)
    (h : ∀ m, AO P N ops rest K ((d, .own m 0 n.toNat) :: ρ) ((m, .mem (.ar z [])) :: H)) : AO P N ops (o :: rest) K ρ H :=
  AO.step hg d hd hN fun F g a w se h3 => by
    obtain ⟨q, rfl⟩ : ∃ q : Nat, n = q := ⟨n.toNat, by omega⟩
    have e1 : a.eval s = .slice none 0 0 := se.ev hs
    have e2 : a.eval y = .int .i64 q := se.ev hy
    simp only [tySize, Option.map_eq_some_iff] at hz
    obtain ⟨inf, hinf, hsz⟩ := hz
    simp only [tyBytes, hinf, Option.map_some, Option.some.injEq] at hby
    simp only [tyZero, hinf, Option.bind_some, Option.map_eq_some_iff] at hzero
    obtain ⟨zv, hzv, hzc⟩ := hzero
    obtain ⟨h01, h02, h03⟩ := h0
    have hbb : q * inf.bytes ≤ 140737488355328 := by
      rw [hby]
      rw [← Int.natCast_mul] at h02
      exact Int.ofNat_le.1 h02
    clear h02
    have hr := run_append_make (P := P) (w := w) (ty := o.type) ht hu hinf hzv (n := q) (by omega) (by omega) hbb (by omega)
    have hge := grownCap_ge w q 0 E
    have hzcs : zv.cells.size = z := by rw [← hzl, ← hzc]; simp
    have hb' : Below w.heap.size w (w.drew.alloc (.cells (Builtin.zeroCells zv.cells q ++ Builtin.zeroCells zv.cells (grownCap w q 0 E - q)) E)) := ((Below.refl _ _).drew).alloc (Nat.le_refl _) _
    have hx : (execOp a.eval o).run P w = .ok (.value (.slice (some ⟨w.heap.size, 0, none⟩) q (grownCap w q 0 E))) (w.drew.alloc (.cells (Builtin.zeroCells zv.cells q ++ Builtin.zeroCells zv.cells (grownCap w q 0 E - q)) E)) := by
      simp [execOp, ho, resolve, invoke, builtin, e1, e2, hr]
    have hv : V { g with nm := g.nm ++ [⟨some w.heap.size, 0, grownCap w q 0 E, z⟩] } (.own g.nm.length 0 (q : Int).toNat) (.slice (some ⟨w.heap.size, 0, none⟩) q (grownCap w q 0 E)) := by
      have := Sim.own (g := { g with nm := g.nm ++ [⟨some w.heap.size, 0, grownCap w q 0 E, z⟩] }) (n := g.nm.length) (off := 0) (len := q) (p := ⟨some w.heap.size, 0, grownCap w q 0 E, z⟩) (by simp) rfl (by simpa using hge)
      simp only [Nat.zero_mul, Nat.add_zero, Nat.sub_zero] at this
      exact (this : Sim _ _ [_])
    have hs : WSat F { g with nm := g.nm ++ [⟨some w.heap.size, 0, grownCap w q 0 E, z⟩] } ((g.nm.length, .mem (.ar z [])) :: H) (w.drew.alloc (.cells (Builtin.zeroCells zv.cells q ++ Builtin.zeroCells zv.cells (grownCap w q 0 E - q)) E)) :=
      h3.new hb' (x := .ar z []) Sim.arNil (Nat.le_refl _) (heap_alloc_new w.drew _) (cap := grownCap w q 0 E) (by
        simp only [AV.arz, Option.getD_some, Array.size_append, size_zeroCells, hzcs]
        rw [← Nat.add_mul]
        exact Nat.mul_le_mul_right _ (by omega)) (fun j y hj => by simp at hj)
    exact ⟨_, _, _, _, _, hx, G.le.push g _, hv, hs, h _⟩
theorem Calm.capNil {T E : TypeId} {y : Operand} (ho : o.op = .call { callee := .builtin .cap, args := #[y], argTypes := #[T] }) (hy : Env.ev ρ y = some (.fl (.slice none 0 0)))
    (ht : P.underlying T = some (.slice E)) : Calm P o ρ H (.fl (.int .i64 0)) :=
  Calm.of_flat fun g a s' w => by
    have e1 : a.eval y = .slice none 0 0 := s'.ev hy
    simp [execOp, ho, e1, resolve, invoke, builtin, Builtin.cap_, run_underlying ht, goInt]
theorem Calm.sliceNil {T E : TypeId} {y hi : Operand} {z : Nat} (ho : o.op = .slice T y none (some hi) none) (hy : Env.ev ρ y = some (.fl (.slice none 0 0))) (hh : Env.ev ρ hi = some (.fl (.int .i64 0)))
    (ht : P.underlying T = some (.slice E)) (hz : tySize P E = some z) : Calm P o ρ H (.fl (.slice none 0 0)) :=
  Calm.of_flat fun g a s' w => by
    have e1 : a.eval y = .slice none 0 0 := s'.ev hy
    have e2 : a.eval hi = .int .i64 0 := s'.ev hh
    have r := sliceBounds_run (P := P) (w := w) (isSlice := true) (n := 0) (cap := 0) (lo := none) (hi := some hi) (l := 0) (h := 0) s' rfl (by simp only [highOf, hh]) (by omega) (by omega) (by omega)
    simp only [Option.map_none, Option.map_some] at r
    simp [execOp, ho, e1, Instr.sliceAt, Instr.slice, run_underlying ht, r, run_tySize hz]
end
end Go.Avl
/- Package variables that are only read; arrays compared. -/
namespace Go.Avl
open Go Go.RowKit
set_option linter.all false
section
variable {P : Program} {N : Nat} {ops : Array Oper} {o : Oper} {rest : List Oper} {K : Env → Heap → Prop} {ρ : Env} {H : Heap}

theorem Calm.of_tab {v : Value} (h : ∀ g a, ESat g ρ a → ∀ w, TabW w → (execOp a.eval o).run P w = .ok (.value v) w) : Calm P o ρ H (.fl v) :=
  fun F g a w h1 h3 => ⟨v, rfl, fun w' hb => by unfold Oper.quietAt; rw [h g a h1 w' (h3.tab.below hb)]; exact ⟨rfl, rfl⟩⟩

/-- An element's address in a variable. -/
theorem Calm.idxGlob {T E : TypeId} {y iy : Operand} {k : IntKind} {i : Int} {n z b : Nat} (ho : o.op = .indexAddr T y iy) (hy : Env.ev ρ y = some (.fl (.pointer (some ⟨b, 0, none⟩)))) (hi : Env.ev ρ iy = some (.fl (.int k i)))
    (h : 0 ≤ i ∧ i < (n : Int)) (ht : P.underlying T = some (.array n E)) (hz : tySize P E = some z) : Calm P o ρ H (.fl (.pointer (some ⟨b, i.toNat * z, none⟩))) :=
  Calm.of_flat fun g a s w => by
    have e1 : a.eval y = .pointer (some ⟨b, 0, none⟩) := s.ev hy
    have e2 : a.eval iy = .int k i := s.ev hi
    simp [execOp, ho, e1, e2, Instr.indexAt, run_underlying ht, asIntOf, h.1, h.2, run_tySize hz, Addr.add_lit, Instr.sureAddr]
theorem Calm.loadTab {T : TypeId} {y : Operand} {b c : Nat} {k : IntKind} {n : Int} (ho : o.op = .load T y) (hy : Env.ev ρ y = some (.fl (.pointer (some ⟨b, c, none⟩)))) (hm : (b, c, .int k n) ∈ tabs)
    (ha : tyAgg P T = some false) (hz : tySize P T = some 1) : Calm P o ρ H (.fl (.int k n)) :=
  Calm.of_tab fun g a s w ht => by
    have e1 : a.eval y = .pointer (some ⟨b, c, none⟩) := s.ev hy
    have e2 := ht _ hm
    have sl : Sim g (.fl (.int k n)) [.int k n] := .fl rfl
    have := run_loadVar (P := P) (w := w) (b := b) (off := c) (T := T) sl (fun j y h => by
      cases j with
      | zero => simp at h; subst h; simpa using e2
      | succ j => simp at h) ha hz
    simp [execOp, ho, e1, Instr.loadAt, Instr.sureAddr, this, asValue, AV.isAgg]

/-! Arrays compared. -/
theorem eqItems_run {m : Nat} {E : TypeId} {z : Nat} {α : Type} [DecidableEq α] {f : α → AV} (he : ∀ a b, EqOK P m E (f a) (f b) (decide (a = b))) (ha : ∀ a, tyAgg P E = some (f a).isAgg) (hz : ∀ a, tySize P E = some (f a).size) (hzz : ∀ a, (f a).size = z) (hc : P.cellsOf E = z)
    {g : G} {xs ys : List α} {l r : List Value} (hx : Sim g (.ar z (xs.map f)) l) (hy : Sim g (.ar z (ys.map f)) r) (d : Nat) (w : World) : ∀ is : List Nat, (∀ i ∈ is, i < xs.length ∧ i < ys.length) →
    (Op.eqItems (d + m) E (P.cellsOf E) l.toArray r.toArray is).run P w = .ok (is.all fun i => decide (xs[i]? = ys[i]?)) w
  | [], _ => by simp [Op.eqItems]
  | i :: is, h => by
    obtain ⟨h1, h2⟩ := h i (by simp)
    have k1 : At (.ar z (xs.map f)) (i * z) (f xs[i]) := by
      have := At.idx (z := z) (cs := xs.map f) (c := f xs[i]) i (by simp [h1]) At.here
      simpa using this
    have k2 : At (.ar z (ys.map f)) (i * z) (f ys[i]) := by
      have := At.idx (z := z) (cs := ys.map f) (c := f ys[i]) i (by simp [h2]) At.here
      simpa using this
    obtain ⟨u, hu, ru⟩ := run_part (P := P) (w := w) hx k1 (ha _) (hz _)
    obtain ⟨v, hv, rv⟩ := run_part (P := P) (w := w) hy k2 (ha _) (hz _)
    rw [Op.eqItems, hc]
    simp only [Sem.run_bind, ru, rv, Result.andThen_ok, he xs[i] ys[i] d g u v w hu hv]
    have hget : decide (xs[i]? = ys[i]?) = decide (xs[i] = ys[i]) := by rw [List.getElem?_eq_getElem h1, List.getElem?_eq_getElem h2]; simp
    by_cases e : xs[i] = ys[i]
    · have ih := eqItems_run he ha hz hzz hc hx hy d w is (fun j hj => h j (by simp [hj]))
      rw [hc] at ih
      simp [e, hget, ih]
    · simp [e, hget]
theorem EqOK.vec {m n : Nat} {T E : TypeId} {z : Nat} {α : Type} [DecidableEq α] {f : α → AV} (ht : P.underlying T = some (.array n E)) (he : ∀ a b, EqOK P m E (f a) (f b) (decide (a = b))) (ha : ∀ a, tyAgg P E = some (f a).isAgg) (hz : ∀ a, tySize P E = some (f a).size) (hzz : ∀ a, (f a).size = z) (hc : P.cellsOf E = z)
    (hi : ∃ i, P.info? E = some i) (x y : Vector α n) : EqOK P (m + 1) T (.ar z (x.toList.map f)) (.ar z (y.toList.map f)) (decide (x = y)) := fun d g u v w h1 h2 => by
  obtain ⟨l, rfl, hl⟩ := h1
  obtain ⟨r, rfl, hr⟩ := h2
  obtain ⟨i, hi⟩ := hi
  have := run_equalIn_array (P := P) (w := w) (d + m) l.toArray r.toArray ht hi
  rw [show d + (m + 1) = (d + m) + 1 by omega, this, eqItems_run he ha hz hzz hc hl hr d w (List.range n) (fun i hi => by simpa using hi)]
  congr 1
  rw [Bool.eq_iff_iff, List.all_eq_true]
  simp only [List.mem_range, decide_eq_true_eq]
  constructor
  · intro h
    apply Vector.toList_inj.1
    apply List.ext_getElem?
    intro j
    by_cases hj : j < n
    · exact h j hj
    · rw [List.getElem?_eq_none (by simpa using hj), List.getElem?_eq_none (by simpa using hj)]
  · rintro rfl j _; rfl
theorem Calm.eqA {T T' : TypeId} {y z : Operand} {q q' m : Nat} {cs ds : List AV} {b : Bool} (ho : o.op = .binOp .eql T y z T') (hy : Env.ev ρ y = some (.ar q cs)) (hz : Env.ev ρ z = some (.ar q' ds))
    (hg : P.eqGuardType P.depth T = false) (he : EqOK P m T (.ar q cs) (.ar q' ds) b) (hm : m ≤ 10000) : Calm P o ρ H (.fl (.bool b)) :=
  Calm.of_flat fun g a s w => by
    have e1 : V1 g (.ar q cs) (a.eval y) := s.ev hy
    have e2 : V1 g (.ar q' ds) (a.eval z) := s.ev hz
    have r := he (10000 - m) g _ _ w e1 e2
    rw [show 10000 - m + m = 10000 by omega] at r
    obtain ⟨l, el, _⟩ := e1
    obtain ⟨k, ek, _⟩ := e2
    rw [el, ek] at r
    simp [execOp, ho, el, ek, run_eqGuard_agg (P := P) w .eql T y z l.toArray k.toArray hg, run_eql_struct (P := P) w, r]
theorem Calm.neA {T T' : TypeId} {y z : Operand} {q q' m : Nat} {cs ds : List AV} {b : Bool} (ho : o.op = .binOp .neq T y z T') (hy : Env.ev ρ y = some (.ar q cs)) (hz : Env.ev ρ z = some (.ar q' ds))
    (hg : P.eqGuardType P.depth T = false) (he : EqOK P m T (.ar q cs) (.ar q' ds) b) (hm : m ≤ 10000) : Calm P o ρ H (.fl (.bool (!b))) :=
  Calm.of_flat fun g a s w => by
    have e1 : V1 g (.ar q cs) (a.eval y) := s.ev hy
    have e2 : V1 g (.ar q' ds) (a.eval z) := s.ev hz
    have r := he (10000 - m) g _ _ w e1 e2
    rw [show 10000 - m + m = 10000 by omega] at r
    obtain ⟨l, el, _⟩ := e1
    obtain ⟨k, ek, _⟩ := e2
    rw [el, ek] at r
    simp [execOp, ho, el, ek, run_eqGuard_agg (P := P) w .neq T y z l.toArray k.toArray hg, run_neq_struct (P := P) w, r]
end
end Go.Avl
/- Regions whose operations come in any order, with a store that comes last. -/
namespace Go.Avl
open Go Go.RowKit
set_option linter.all false
section
variable {P : Program} {N : Nat} {F : Fr} {g : G} {ρ0 : Env} {H : Heap} {ds : List Deferred} {l : List Oper} {xs : List AV} {R : Exit → Act → World → Prop}
theorem any_stepT {tl : List Oper} (hlen : xs.length = l.length) (hB : AnyOK l) (hS : StepsX P N (l ++ tl).toArray (l.zip xs) ρ0 H 0 (l.zip xs)) {listed : Array Bool} {a : Act} {w : World} (inv : AnyInv F g ρ0 H N ds (l.zip xs) listed a w) {i : Nat} (hi : i ∈ Region.ready .any (l ++ tl).toArray listed) (hil : i < l.length) :
    wpOp P (l ++ tl).toArray R i (fun a' w' => AnyInv F g ρ0 H N ds (l.zip xs) (listed.setIfInBounds i true) a' w') a w := by
  obtain ⟨k1, k2, o, ho, k3⟩ := ready_spec hi
  have hol : l[i]? = some o := by
    have : (l ++ tl)[i]? = some o := by simpa using ho
    rwa [List.getElem?_append_left hil] at this
  obtain ⟨x, hx⟩ := zip_get hlen hol
  obtain ⟨d, hd⟩ := hB.dst i o hol
  obtain ⟨g', q1, q2, q3, q4⟩ := inv.inv
  have hao := hS.get hx
  rw [Nat.zero_add] at hao
  have hes : ESat g' (needEnv (l.zip xs) o ++ outer (l.zip xs) ρ0 i) a := by
    intro t y hy
    rw [lookup_append'] at hy
    cases hn : (needEnv (l.zip xs) o).lookup t with
    | none =>
      rw [hn] at hy
      obtain ⟨u1, u2⟩ := lookup_filter (f := keeps (l.zip xs) i) (show (outer (l.zip xs) ρ0 i).lookup t = some y by simpa using hy)
      refine q2 t y u2 fun j p hp hl hdt => ?_
      have := List.all_eq_true.1 u1 p (List.mem_of_getElem? hp)
      simp only [Bool.or_eq_true, bne_iff_ne, ne_eq, hdt, not_true, false_or, List.any_eq_true, Bool.and_eq_true, beq_iff_eq] at this
      obtain ⟨e, he, hb, hon⟩ := this
      have hc := inv.closed j p hp hl e he hb
      rw [hon] at hc
      rw [Array.getD_eq_getD_getElem?] at hc k2
      cases hz : listed[i]? with
      | none => rw [hz] at hc; cases hc
      | some b => rw [hz] at hc k2; simp at hc k2; rw [hc] at k2; cases k2
    | some z =>
      rw [hn] at hy; cases hy
      have hm := lookup_mem hn
      simp only [needEnv, List.mem_filterMap] at hm
      obtain ⟨e, he, hf⟩ := hm
      by_cases hb : Region.binds .any e = true
      · rw [if_pos hb] at hf
        cases hp : (l.zip xs)[e.on]? with
        | none => rw [hp] at hf; cases hf
        | some p =>
          rw [hp] at hf
          simp only [Option.bind_some, Option.map_eq_some_iff] at hf
          obtain ⟨d', hd', he'⟩ := hf
          cases he'
          exact q3 e.on p _ hp (k3 e he hb) hd'
      · rw [if_neg hb] at hf; cases hf
  have wl := hao F g' a w (fun e a' w' => match e with
    | .normal => ∃ g'' ρ' H', g'.le g'' ∧ ESat g'' ρ' a' ∧ a'.tmps.size = N ∧ a'.defers = a.defers ∧ WSat F g'' H' w' ∧ (∃ d, o.dst = some d ∧ ρ'.lookup d = some x) ∧ Sub H H'
    | e => R e a' w') hes inv.size q4 (fun g'' ρ' H' a' w' j1 j2 j3 j4 j5 j6 => ⟨g'', ρ', H', j1, j2, j3, j4, j5, j6⟩)
  have fin : ∀ a' w', (∃ g'' ρ' H', g'.le g'' ∧ ESat g'' ρ' a' ∧ a'.tmps.size = N ∧ a'.defers = a.defers ∧ WSat F g'' H' w' ∧ (∃ d, o.dst = some d ∧ ρ'.lookup d = some x) ∧ Sub H H') → (∃ v, a'.tmps = (a.put o.dst v).tmps) →
      AnyInv F g ρ0 H N ds (l.zip xs) (listed.setIfInBounds i true) a' w' := by
    rintro a' w' ⟨g'', ρ', H', j1, j2, j3, j4, j5, ⟨d', hd', j6⟩, j7⟩ ⟨v, hv⟩
    obtain rfl : d = d' := Option.some.inj (hd.symm.trans hd')
    rw [hd] at hv
    have old : ∀ t, t ≠ d → a'.tmps.getD t undef = a.tmps.getD t undef := fun t ht => by rw [hv]; exact getD_put ht
    have stays : ∀ j, listed.getD j false = true → (listed.setIfInBounds i true).getD j false = true := fun j hj => by
      rw [Array.getD_eq_getD_getElem?] at hj ⊢
      rw [Array.getElem?_setIfInBounds]
      by_cases e : i = j
      · subst e
        cases hz : listed[i]? with
        | none => rw [hz] at hj; cases hj
        | some b => rw [if_pos rfl, if_pos (Array.getElem?_eq_some_iff.1 hz).1]; rfl
      · rw [if_neg e]; exact hj
    have hlt : i < listed.size := by
      rw [Array.getD_eq_getD_getElem?] at k2
      cases hz : listed[i]? with
      | none => rw [hz] at k2; cases k2
      | some b => exact (Array.getElem?_eq_some_iff.1 hz).1
    have now : (listed.setIfInBounds i true).getD i false = true := by
      rw [Array.getD_eq_getD_getElem?, Array.getElem?_setIfInBounds, if_pos rfl, if_pos hlt]; rfl
    refine ⟨⟨g'', q1.trans j1, ?_, ?_, j5.sub j7⟩, j3, j4.trans inv.defers, fun j p hp hl e he hb => ?_⟩
    · intro t y hy hfree
      have ht : t ≠ d := by
        rintro rfl
        exact hfree i _ hx now hd
      rw [old t ht]; exact (q2 t y hy fun j p hp hl => hfree j p hp (stays j hl)).mono j1
    · intro j p e hp hl he
      by_cases hji : j = i
      · subst hji
        rw [hx] at hp; cases hp
        rw [hd] at he; cases he
        exact j2 d x j6
      · have hne : e ≠ d := by
          rintro rfl
          exact hji (hB.nodup j i p.1 o e (zip_fst hp) hol he hd)
        rw [old e hne]
        exact (q3 j p e hp ((getD_set hl).resolve_left hji) he).mono j1
    · rcases getD_set hl with rfl | h'
      · rw [hx] at hp; cases hp
        exact stays _ (k3 e he hb)
      · exact stays _ (inv.closed j p hp h' e he hb)
  unfold wpOp
  rw [ho]
  simp only [wpList] at wl
  show (if Region.wanted o (yielded (l ++ tl).toArray a.tmps) = true then _ else _)
  by_cases hw : Region.wanted o (yielded (l ++ tl).toArray a.tmps) = true
  · rw [if_pos hw] at wl ⊢
    refine wp_conv (Q := fun e a' w' => match e with
      | .normal => ∃ g'' ρ' H', g'.le g'' ∧ ESat g'' ρ' a' ∧ a'.tmps.size = N ∧ a'.defers = a.defers ∧ WSat F g'' H' w' ∧ (∃ d, o.dst = some d ∧ ρ'.lookup d = some x) ∧ Sub H H'
      | e => R e a' w') (fun e a w he h => by cases e <;> first | exact absurd rfl he | exact h) (fun a' w' h => fin a' w' h.1 h.2) (wl.imp wp_put id)
  · rw [if_neg hw] at wl ⊢
    exact fin _ _ wl ⟨undef, rfl⟩

/-- What binds the store: each of the others. -/
def lastB (n : Nat) (s : Oper) : Bool := s.dst.isNone && (List.range n).all (fun i => s.after.toList.any fun e => Region.binds .any e && e.on == i) && s.after.toList.all fun e => decide (e.on < n)
theorem any_mainS {s : Oper} {ρ1 : Env} (hlen : xs.length = l.length) (hB : AnyOK l) (hl : lastB l.length s = true) (hS : StepsX P N (l ++ [s]).toArray (l.zip xs) ρ0 H 0 (l.zip xs))
    (hlast : ∀ a w, AnyInv F g ρ0 H N ds (l.zip xs) ((Array.replicate l.length true).push false) a w → wpOp P (l ++ [s]).toArray R l.length (fun a' w' => R .normal a' w') a w) : ∀ (fuel : Nat) (listed : Array Bool) (a : Act) (w : World), listed.size = l.length + 1 → listed.getD l.length true = false → listed.toList.count false ≤ fuel → AnyInv F g ρ0 H N ds (l.zip xs) listed a w →
    wpAny P .any (l ++ [s]).toArray R fuel listed a w := by
  simp only [lastB, Bool.and_eq_true, List.all_eq_true, List.mem_range, List.any_eq_true, beq_iff_eq, decide_eq_true_eq] at hl
  obtain ⟨⟨hl0, hl1⟩, hl2⟩ := hl
  have hget : ∀ i, i < l.length → (l ++ [s]).toArray[i]? = l[i]? := fun i hi => by simp [List.getElem?_append_left hi]
  have hgs : (l ++ [s]).toArray[l.length]? = some s := by simp
  -- while the store is not listed, something is ready
  have some_ready : ∀ listed : Array Bool, listed.size = l.length + 1 → listed.getD l.length true = false → Region.ready .any (l ++ [s]).toArray listed ≠ [] := by
    intro listed hsz hn hr
    have key : ∀ i, i < l.length → listed.getD i false = true := by
      intro i
      induction i using Nat.strongRecOn with
      | _ i ih =>
        intro hi
        cases hc : listed.getD i true with
        | true =>
          rw [Array.getD_eq_getD_getElem?, Array.getElem?_eq_getElem (by omega)] at hc ⊢
          exact hc
        | false =>
          exfalso
          have : i ∈ Region.ready .any (l ++ [s]).toArray listed := ready_of (o := l[i]) (by rw [hget i hi]; simp [hi]) hc (fun e he hbd => ih e.on (hB.back i l[i] (by simp [hi]) e he hbd) (by have := hB.back i l[i] (by simp [hi]) e he hbd; omega))
          rw [hr] at this; cases this
    have : l.length ∈ Region.ready .any (l ++ [s]).toArray listed := ready_of (o := s) hgs hn (fun e he _ => key e.on (hl2 e he))
    rw [hr] at this; cases this
  intro fuel
  induction fuel with
  | zero =>
    intro listed a w hsz hn hc inv
    exfalso
    have : false ∈ listed.toList := by
      rw [Array.getD_eq_getD_getElem?, Array.getElem?_eq_getElem (by omega)] at hn
      rw [← show listed[l.length]'(by omega) = false from hn]; simp
    have := List.count_pos_iff.2 this
    omega
  | succ fuel ih =>
    intro listed a w hsz hn hc inv
    refine ⟨fun hr => absurd hr (some_ready listed hsz hn), fun i hi => ?_⟩
    obtain ⟨k1, k2, o, ho, k3⟩ := ready_spec hi
    have hi' : i < listed.size := by rw [hsz]; simpa using k1
    by_cases hil : i < l.length
    · refine wpOp_mono (fun a' w' h => ih _ a' w' (by simpa using hsz) ?_ ?_ h) (any_stepT hlen hB hS inv hi hil)
      · rw [Array.getD_eq_getD_getElem?] at hn ⊢
        rw [Array.getElem?_setIfInBounds, if_neg (by omega)]; exact hn
      · rw [Array.getD_eq_getD_getElem?, Array.getElem?_eq_getElem hi'] at k2
        have hf : listed.toList[i]'(by simpa using hi') = false := by simpa using k2
        have e2 : (listed.toList.set i true).count false = listed.toList.count false - 1 + 0 := by
          rw [List.count_set (by simpa using hi'), hf]; rfl
        have : false ∈ listed.toList := by rw [← hf]; exact List.getElem_mem _
        have := List.count_pos_iff.2 this
        rw [Array.toList_setIfInBounds, e2]
        omega
    · obtain rfl : i = l.length := by omega
      have hos : o = s := Option.some.inj (ho.symm.trans hgs)
      subst hos
      have on : ∀ j, j < l.length → listed.getD j false = true := fun j hj => by
        obtain ⟨e, he, hb, hon⟩ := hl1 j hj
        have := k3 e he hb
        rw [hon] at this; exact this
      have hl3 : ∀ j p, (l.zip xs)[(j : Nat)]? = some p → j < l.length := fun j p hp => (List.getElem?_eq_some_iff.1 (zip_fst hp)).1
      have on2 : ∀ j, j < l.length → ((Array.replicate l.length true).push false).getD j false = true := fun j hj => by
        rw [Array.getD_eq_getD_getElem?, Array.getElem?_push, if_neg (by simp; omega)]; simp [hj]
      have inv' : AnyInv F g ρ0 H N ds (l.zip xs) ((Array.replicate l.length true).push false) a w := by
        refine ⟨?_, inv.size, inv.defers, fun j p hp hl e he hb => on2 _ (by have := hB.back j p.1 (zip_fst hp) e he hb; have := hl3 j p hp; omega)⟩
        obtain ⟨g', q1, q2, q3, q4⟩ := inv.inv
        exact ⟨g', q1, fun t x hx hf => q2 t x hx fun j p hp _ => hf j p hp (on2 j (hl3 j p hp)), fun j p d hp _ hd => q3 j p d hp (on j (hl3 j p hp)) hd, q4⟩
      refine wpOp_mono (fun a' w' h => ?_) (hlast a w inv')
      -- all are listed now
      have hr : Region.ready .any (l ++ [o]).toArray (listed.setIfInBounds l.length true) = [] := by
        cases e : Region.ready .any (l ++ [o]).toArray (listed.setIfInBounds l.length true) with
        | nil => rfl
        | cons i r =>
          exfalso
          obtain ⟨c1, c2, _⟩ := ready_spec (i := i) (by rw [e]; simp)
          have c1' : i < l.length + 1 := by simpa using c1
          rw [Array.getD_eq_getD_getElem?, Array.getElem?_setIfInBounds] at c2
          by_cases q : l.length = i
          · rw [if_pos q, if_pos (by omega)] at c2; cases c2
          · rw [if_neg q] at c2
            have := on i (by omega)
            rw [Array.getD_eq_getD_getElem?] at this
            rw [Array.getElem?_eq_getElem (by omega)] at this c2
            simp at this c2
            rw [this] at c2; cases c2
      cases fuel with
      | zero => exact ⟨hr, h⟩
      | succ f => exact ⟨fun _ => h, fun i hi => by rw [hr] at hi; cases hi⟩
end
theorem AW.regAnyS {P : Program} {N : Nat} {ρ : Env} {H : Heap} {Q : Exit → Env → Heap → Prop} {id : Nat} {l : List Oper} {s : Oper} (hm : P.follows .mixedOrders = true) (hB : anyB l = true) (hl : lastB l.length s = true) (xs : List AV) (ρ0 : Env) (hs : ESub ρ0 ρ) (hlen : xs.length = l.length)
    (h : StepsX P N (l ++ [s]).toArray (l.zip xs) ρ0 H 0 (l.zip xs)) (ρ' : Env) (he : ESub ρ' (ends (l.zip xs) ++ ρ0)) (hk : AO P N (l ++ [s]).toArray [s] (Q .normal) ρ' H) : AW P N (.region id (l ++ [s]).toArray true) Q ρ H := by
  intro F g a w R h1 h2 h3 h4
  refine wp_region_any hm ?_
  have hB' := anyB_ok hB
  have h3' : WSat F g H { w with drawn := w.drawn + 1 } := h3.of_below (Below.refl _ _).drew
  have no : ∀ (j : Nat), (Array.replicate (l ++ [s]).length false).getD j false = true → False := fun j hl => by
    rw [Array.getD_eq_getD_getElem?] at hl
    by_cases hj : j < (l ++ [s]).length
    · rw [Array.getElem?_eq_getElem (by simpa using hj)] at hl; simp at hl
    · rw [Array.getElem?_eq_none (by simpa using hj)] at hl; simp at hl
  refine any_mainS (F := F) (g := g) (ds := a.defers) (ρ1 := ρ') hlen hB' hl h (fun a' w' inv => ?_) _ _ a _ (by simp) (by simp [Array.getD_eq_getD_getElem?]) (by simp) ⟨⟨g, .refl g, fun t x hx _ => hs.sat h1 t x hx, fun j p d _ hl _ => (no j hl).elim, h3'⟩, h2, rfl, fun j p _ hl => (no j hl).elim⟩
  obtain ⟨g', q1, q2, q3, q4⟩ := inv.inv
  have hes : ESat g' ρ' a' := by
    refine he.sat ?_
    intro t y hy
    rw [lookup_append'] at hy
    cases hn : (ends (l.zip xs)).lookup t with
    | none =>
      rw [hn] at hy
      refine q2 t y (by simpa using hy) fun j p hp _ hd => ?_
      have : (t, p.2) ∈ ends (l.zip xs) := by
        simp only [ends, List.mem_filterMap, Option.map_eq_some_iff]
        exact ⟨p, List.mem_of_getElem? hp, t, hd, rfl⟩
      exact lookup_none_mem hn this
    | some z =>
      rw [hn] at hy; cases hy
      obtain ⟨j, p, hp, hd, rfl⟩ := ends_get hn
      refine q3 j p t hp ?_ hd
      have hj : j < l.length := (List.getElem?_eq_some_iff.1 (zip_fst hp)).1
      rw [Array.getD_eq_getD_getElem?, Array.getElem?_push, if_neg (by simp; omega)]; simp [hj]
  have wl := hk F g' a' w' (fun e a2 w2 => R e a2 w2) hes inv.size q4 (fun g'' ρ2 H2 a2 w2 j1 j2 j3 j4 j5 j6 => h4 _ g'' ρ2 H2 a2 w2 (q1.trans j1) j2 j3 (j4.trans inv.defers) j5 j6)
  unfold wpOp
  rw [show (l ++ [s]).toArray[l.length]? = some s by simp]
  simp only [wpList] at wl
  show (if Region.wanted s (yielded (l ++ [s]).toArray a'.tmps) = true then _ else _)
  by_cases hw : Region.wanted s (yielded (l ++ [s]).toArray a'.tmps) = true
  · rw [if_pos hw] at wl ⊢
    exact wl
  · rw [if_neg hw] at wl ⊢
    exact wl
theorem AW.regAnyL {P : Program} {N : Nat} {ρ : Env} {H : Heap} {Q : Exit → Env → Heap → Prop} {id : Nat} {L l : List Oper} {s : Oper} (hd : L.dropLast = l) (hL : L = l ++ [s]) (hm : P.follows .mixedOrders = true) (hB : anyB l = true) (hl : lastB l.length s = true) (xs : List AV) (ρ0 : Env) (hs : ESub ρ0 ρ) (hlen : xs.length = l.length)
    (h : StepsX P N L.toArray (l.zip xs) ρ0 H 0 (l.zip xs)) (ρ' : Env) (he : ESub ρ' (ends (l.zip xs) ++ ρ0)) (hk : AO P N L.toArray [s] (Q .normal) ρ' H) : AW P N (.region id L.toArray true) Q ρ H := by
  clear hd
  subst hL
  exact AW.regAnyS hm hB hl xs ρ0 hs hlen h ρ' he hk
end Go.Avl
/- Rows made at once, over lists. -/
namespace Go.Avl
open Go Go.RowKit
set_option linter.all false
section
variable {P : Program} {N : Nat} {ops : Array Oper} {o : Oper} {rest : List Oper} {K : Env → Heap → Prop} {ρ : Env} {H : Heap}
theorem AO.makeL {α : Type} {f : α → AV} (a : α) {T E : TypeId} {y1 y2 : Operand} {k1 k2 : IntKind} {l : Int} {z by' : Nat} {zl : List Value} (hg : o.guard = none) (d : Nat) (hd : o.dst = some d) (hN : d < N) (ho : o.op = .makeSlice T y1 y2) (hy1 : Env.ev ρ y1 = some (.fl (.int k1 l))) (hy2 : Env.ev ρ y2 = some (.fl (.int k2 l)))
    (ht : P.underlying T = some (.slice E)) (hz : tySize P E = some z) (hby : tyBytes P E = some by') (hzero : tyZero P E = some zl) (hZ : ∀ g, Sim g (f a) zl) (hzl : zl.length = z) (h0 : 0 ≤ l ∧ l * by' ≤ 140737488355328 ∧ l ≤ 9223372036854775807)
    (h : ∀ n, AO P N ops rest K ((d, .own n 0 (List.replicate l.toNat a).length) :: ρ) ((n, .mem (.ar z ((List.replicate l.toNat a).map f))) :: H)) : AO P N ops (o :: rest) K ρ H := by
  refine AO.make (Z := f a) hg d hd hN ho hy1 hy2 ht hz hby hzero hzl hZ h0.1 (Int.le_refl _) (by have := h0.2.1; rw [Int.mul_comm] at this; omega) h0.2.2 fun n => ?_
  have := h n
  rw [List.length_replicate, List.map_replicate] at this
  exact this
end
end Go.Avl
/- Maps of our own, as lists of pairs. -/
namespace Go.Avl
open Go Go.RowKit Go.MapKept
set_option linter.unusedVariables false
set_option linter.unusedSectionVars false

def mget {α β : Type} [DecidableEq α] : List (α × β) → α → Option β
  | [], _ => none
  | e :: m, s => if e.1 = s then some e.2 else mget m s
def mput {α β : Type} [DecidableEq α] : List (α × β) → α → β → List (α × β)
  | [], s, v => [(s, v)]
  | e :: m, s, v => if e.1 = s then (s, v) :: m else e :: mput m s v
/-- A map's entries, as the layer has them. -/
def encM {α β : Type} (kf : α → Value) (f : β → AV) (m : List (α × β)) : List (Value × AV) := m.map fun e => (kf e.1, f e.2)
def ER (g : G) (e : Value × AV) (m : MapEntry) : Prop := m.key = e.1 ∧ V1 g e.2 m.val
theorem All2.append {α β : Type} {R : α → β → Prop} {l : List α} {m : List β} (s : All2 R l m) {a : α} {b : β} (h : R a b) : All2 R (l ++ [a]) (m ++ [b]) := by
  induction s with
  | nil => exact .cons h .nil
  | cons x _ ih => exact .cons x ih

section
variable {α β : Type} [DecidableEq α] {kf : α → Value} {f : β → AV} {d : TypeDesc}
theorem find_spec (hi : ∀ a b, kf a = kf b → a = b) (hk : ∀ a, IsKey d (kf a)) (g : G) (s : α) : ∀ (m : List (α × β)) (l : List MapEntry) (i : Nat), All2 (ER g) (encM kf f m) l →
    (mget m s = none ∧ Instr.findNow d (kf s) l i = some none ∧ ∀ b, mput m s b = m ++ [(s, b)]) ∨
    ∃ j e b, mget m s = some b ∧ Instr.findNow d (kf s) l i = some (some (i + j, e.val)) ∧ l[j]? = some e ∧ e.key = kf s ∧ V1 g (f b) e.val ∧
      ∀ c x, V1 g (f c) x → All2 (ER g) (encM kf f (mput m s c)) (l.set j { e with key := kf s, val := x })
  | [], l, i, h => by cases h; exact .inl ⟨rfl, rfl, fun _ => rfl⟩
  | p :: m, l, i, h => by
    cases h with
    | @cons _ e _ l h1 h2 =>
      have hk1 : e.key = kf p.1 := h1.1
      obtain ⟨r, hr, hiff⟩ := sameNow_of_keys (hk s) (show IsKey d e.key by rw [hk1]; exact hk p.1)
      by_cases q : p.1 = s
      · have e1 : r = true := hiff.2 (by rw [hk1, q])
        subst e1
        refine .inr ⟨0, e, p.2, by rw [mget, if_pos q], by simp [Instr.findNow, hr], rfl, by rw [hk1, q], h1.2, fun c x hx => ?_⟩
        rw [mput, if_pos q]
        exact .cons ⟨rfl, hx⟩ h2
      · have e1 : r = false := by
          cases r with
          | false => rfl
          | true => exact absurd (hi _ _ (h1.1.symm.trans (hiff.1 rfl).symm)) q
        subst e1
        rcases find_spec hi hk g s m l (i + 1) h2 with ⟨k1, k2, k3⟩ | ⟨j, e', b, k1, k2, k3, k4, k5, k6⟩
        · exact .inl ⟨by rw [mget, if_neg q, k1], by simp [Instr.findNow, hr, k2], fun b => by rw [mput, if_neg q, k3]; rfl⟩
        · refine .inr ⟨j + 1, e', b, by rw [mget, if_neg q, k1], by simp [Instr.findNow, hr, k2]; omega, by simpa using k3, k4, k5, fun c x hx => ?_⟩
          rw [mput, if_neg q]
          exact .cons h1 (k6 c x hx)

variable {P : Program} {N : Nat} {ops : Array Oper} {o : Oper} {rest : List Oper} {K : Env → Heap → Prop} {ρ : Env} {H : Heap} {x : AV}

theorem AO.makeMap {T : TypeId} (hg : o.guard = none) (dd : Nat) (hd : o.dst = some dd) (hN : dd < N) (ho : o.op = .makeMap T none)
    (h : ∀ n, AO P N ops rest K ((dd, .mp n) :: ρ) ((n, .map []) :: H)) : AO P N ops (o :: rest) K ρ H :=
  AO.step hg dd hd hN fun F g a w s h3 => by
    have hb : Below w.heap.size w (w.alloc (.map #[] 0)) := (Below.refl _ _).alloc (Nat.le_refl _) _
    refine ⟨.map (some w.heap.size), { g with nm := g.nm ++ [⟨some w.heap.size, 0, 0, 1⟩] }, w.alloc (.map #[] 0), .mp g.nm.length, (g.nm.length, .map []) :: H, ?_, G.le.push g _, ?_, ?_, h _⟩
    · simp [execOp, ho, run_makeMap]
    · exact Sim.mp (g := { g with nm := g.nm ++ [⟨some w.heap.size, 0, 0, 1⟩] }) (n := g.nm.length) (p := ⟨some w.heap.size, 0, 0, 1⟩) (by simp) rfl
    · exact h3.cons hb _ _ (fun b e => by cases e; exact Nat.le_refl _) ⟨w.heap.size, #[], 0, rfl, heap_alloc_new w _, .nil⟩

theorem WSat.mapAt {F : Fr} {g : G} {w : World} (h3 : WSat F g H w) {n j b : Nat} {p : Place} {es : List (Value × AV)} (hn : g.nm[n]? = some p) (hb : p.b = some b) (hj : H[j]? = some (n, .map es)) :
    ∃ arr clock, w.heap[b]? = some (.map arr clock) ∧ All2 (ER g) es arr.toList := by
  obtain ⟨p', h1, h2, _⟩ := h3.obj n _ (List.mem_of_getElem? hj)
  obtain rfl : p' = p := Option.some.inj (h1.symm.trans hn)
  obtain ⟨b', arr, clock, e1, e2, e3⟩ := h2
  obtain rfl : b' = b := Option.some.inj (e1.symm.trans hb)
  exact ⟨arr, clock, e2, e3⟩

theorem look_run (hi : ∀ a b, kf a = kf b → a = b) (hk : ∀ a, IsKey d (kf a)) {F : Fr} {g : G} {w w' : World} (h3 : WSat F g H w) (hw : Below w.heap.size w w') {T kt et : TypeId} {n j b : Nat} {p : Place} {m : List (α × β)} {s : α} {z : β}
    (hn : g.nm[n]? = some p) (hb : p.b = some b) (hj : H[j]? = some (n, .map (encM kf f m))) (ht : P.underlying T = some (.map kt et)) (hkt : P.underlying kt = some d) (hz : ∃ zv, ((P.info? et).bind (·.zero)) = some zv ∧ V1 g (f z) zv) :
    ∃ v, V1 g (f ((mget m s).getD z)) v ∧ (∀ w'', Below w.heap.size w w'' → (Instr.lookup T (.map (some b)) (kf s) true).run P w'' = .ok (.tuple #[v, .bool (mget m s).isSome]) w'') ∧ (∀ w'', Below w.heap.size w w'' → (Instr.lookup T (.map (some b)) (kf s) false).run P w'' = .ok v w'') := by
  obtain ⟨arr, clock, e2, e3⟩ := h3.mapAt hn hb hj
  have hlt : b < w.heap.size := (Array.getElem?_eq_some_iff.1 e2).1
  obtain ⟨zv, hz1, hz2⟩ := hz
  obtain ⟨ti, hti, hti2⟩ := Option.bind_eq_some_iff.1 hz1
  rcases find_spec (f := f) hi hk g s m arr.toList 0 e3 with ⟨k1, k2, _⟩ | ⟨q, e, c, k1, k2, _, _, k5, _⟩
  · refine ⟨zv, by rw [k1]; exact hz2, fun w'' h => ?_, fun w'' h => ?_⟩ <;>
    · have e2' : w''.heap[b]? = some (.map arr clock) := by rw [h.block b hlt]; exact e2
      have hzv : (zeroValue et).run P w'' = .ok zv w'' := by simp [zeroValue, run_typeInfo (P := P) w'' hti, hti2]
      simp [Instr.lookup, run_underlying ht, MapKept.run_getObj_map e2', MapKept.run_checkKey hkt (hk s), MapKept.run_findKey hkt k2, hzv, Result.andThen, k1]
  · refine ⟨e.val, by rw [k1]; exact k5, fun w'' h => ?_, fun w'' h => ?_⟩ <;>
    · have e2' : w''.heap[b]? = some (.map arr clock) := by rw [h.block b hlt]; exact e2
      simp [Instr.lookup, run_underlying ht, MapKept.run_getObj_map e2', MapKept.run_checkKey hkt (hk s), MapKept.run_findKey hkt k2, Result.andThen, k1]

theorem Calm.look2 (hi : ∀ a b, kf a = kf b → a = b) (hk : ∀ a, IsKey d (kf a)) {T kt et : TypeId} {y iy : Operand} {n : Nat} {m : List (α × β)} {s : α} (z : β) (j : Nat) (ho : o.op = .lookup T y iy true) (hy : Env.ev ρ y = some (.mp n)) (hiy : Env.ev ρ iy = some (.fl (kf s)))
    (hj : H[j]? = some (n, .map (encM kf f m))) (ht : P.underlying T = some (.map kt et)) (hkt : P.underlying kt = some d) (hz : ∀ g, ∃ zv, ((P.info? et).bind (·.zero)) = some zv ∧ V1 g (f z) zv) :
    Calm P o ρ H (.tup [f ((mget m s).getD z), eBool (mget m s).isSome]) := by
  intro F g a w hs h3
  have e1 : Sim g (.mp n) [a.eval y] := hs.ev hy
  have e2 : a.eval iy = kf s := hs.ev hiy
  generalize hv : a.eval y = v at e1
  cases e1 with
  | @mp _ p b hn hb =>
    obtain ⟨v, k1, k2, _⟩ := look_run (P := P) hi hk h3 (Below.refl _ _) (s := s) (z := z) hn hb hj ht hkt (hz g)
    refine ⟨.tuple #[v, .bool (mget m s).isSome], ⟨[v, .bool (mget m s).isSome], rfl, .cons k1 (.cons rfl .nil)⟩, fun w' hw => ?_⟩
    unfold Oper.quietAt
    rw [show (execOp a.eval o).run P w' = .ok (.value (.tuple #[v, .bool (mget m s).isSome])) w' by simp [execOp, ho, hv, e2, k2 w' hw]]
    exact ⟨rfl, rfl⟩
theorem Calm.look1 (hi : ∀ a b, kf a = kf b → a = b) (hk : ∀ a, IsKey d (kf a)) {T kt et : TypeId} {y iy : Operand} {n : Nat} {m : List (α × β)} {s : α} (z : β) (j : Nat) (ho : o.op = .lookup T y iy false) (hy : Env.ev ρ y = some (.mp n)) (hiy : Env.ev ρ iy = some (.fl (kf s)))
    (hj : H[j]? = some (n, .map (encM kf f m))) (ht : P.underlying T = some (.map kt et)) (hkt : P.underlying kt = some d) (hz : ∀ g, ∃ zv, ((P.info? et).bind (·.zero)) = some zv ∧ V1 g (f z) zv) (hx : x = f ((mget m s).getD z)) (hnt : x.notTup = true) :
    Calm P o ρ H x := by
  intro F g a w hs h3
  have e1 : Sim g (.mp n) [a.eval y] := hs.ev hy
  have e2 : a.eval iy = kf s := hs.ev hiy
  generalize hv : a.eval y = v at e1
  cases e1 with
  | @mp _ p b hn hb =>
    obtain ⟨v, k1, _, k2⟩ := look_run (P := P) hi hk h3 (Below.refl _ _) (s := s) (z := z) hn hb hj ht hkt (hz g)
    refine ⟨v, by subst hx; exact k1.toV, fun w' hw => ?_⟩
    unfold Oper.quietAt
    rw [show (execOp a.eval o).run P w' = .ok (.value v) w' by simp [execOp, ho, hv, e2, k2 w' hw]]
    exact ⟨rfl, rfl⟩
theorem Calm.lenMap {T kt et : TypeId} {y : Operand} {n : Nat} {m : List (α × β)} (j : Nat) (ho : o.op = .call { callee := .builtin .len, args := #[y], argTypes := #[T] }) (hy : Env.ev ρ y = some (.mp n))
    (hj : H[j]? = some (n, .map (encM kf f m))) (ht : P.underlying T = some (.map kt et)) : Calm P o ρ H (.fl (.int .i64 (m.length : Int))) := by
  intro F g a w hs h3
  have e1 : Sim g (.mp n) [a.eval y] := hs.ev hy
  generalize hv : a.eval y = v at e1
  cases e1 with
  | @mp _ p b hn hb =>
    obtain ⟨arr, clock, e2, e3⟩ := h3.mapAt hn hb hj
    have hlt : b < w.heap.size := (Array.getElem?_eq_some_iff.1 e2).1
    have hl : arr.size = m.length := by
      have := e3.length
      simpa [encM] using this
    refine ⟨.int .i64 (m.length : Int), rfl, fun w' hw => ?_⟩
    have e2' : w'.heap[b]? = some (.map arr clock) := by rw [hw.block b hlt]; exact e2
    unfold Oper.quietAt
    rw [show (execOp a.eval o).run P w' = .ok (.value (.int .i64 (m.length : Int))) w' by simp [execOp, ho, hv, resolve, invoke, builtin, Builtin.len_, run_underlying ht, MapKept.run_getObj_map e2', Result.andThen, goInt, hl]]
    exact ⟨rfl, rfl⟩

theorem AO.mapPut (hi : ∀ a b, kf a = kf b → a = b) (hk : ∀ a, IsKey d (kf a)) {T kt et : TypeId} {y iy vy : Operand} {n : Nat} {m : List (α × β)} {s : α} {c : β} (j : Nat) (hg : o.guard = none) (hd : o.dst = none) (ho : o.op = .mapUpdate T y iy vy)
    (hy : Env.ev ρ y = some (.mp n)) (hiy : Env.ev ρ iy = some (.fl (kf s))) (hvy : Env.ev ρ vy = some (f c)) (hnt : (f c).notTup = true)
    (hj : H[j]? = some (n, .map (encM kf f m))) (ht : P.underlying T = some (.map kt et)) (hkt : P.underlying kt = some d)
    (h : AO P N ops rest K ρ (H.set j (n, .map (encM kf f (mput m s c))))) : AO P N ops (o :: rest) K ρ H :=
  AO.step0 hg hd fun F g a w hs h3 => by
    have e1 : Sim g (.mp n) [a.eval y] := hs.ev hy
    have e4 : a.eval iy = kf s := hs.ev hiy
    have e5 : V1 g (f c) (a.eval vy) := (hs.ev hvy).toV1 hnt
    generalize hv : a.eval y = v at e1
    generalize hv2 : a.eval vy = x at e5
    cases e1 with
    | @mp _ p b hn hb =>
      obtain ⟨arr, clock, e2, e3⟩ := h3.mapAt hn hb hj
      have hlt : b < w.heap.size := (Array.getElem?_eq_some_iff.1 e2).1
      have fin : ∀ arr' clock', (Instr.mapUpdate T (.map (some b)) (kf s) x).run P w = .ok () { w with heap := w.heap.setIfInBounds b (.map arr' clock') } → All2 (ER g) (encM kf f (mput m s c)) arr'.toList →
          ∃ g' w' H', (execOp a.eval o).run P w = .ok .skip w' ∧ g.le g' ∧ WSat F g' H' w' ∧ AO P N ops rest K ρ H' := by
        intro arr' clock' hr ha
        refine ⟨g, _, _, ?_, G.le.refl g, h3.set (w' := { w with heap := w.heap.setIfInBounds b (.map arr' clock') }) (m' := .map (encM kf f (mput m s c))) (p' := p) hj hn (G.le.refl g) (fun _ _ => rfl) rfl rfl rfl (by simp) (fun k hk hne => ?_) hn ⟨b, arr', clock', hb, ?_, ha⟩ (fun b' hb' => .inl hb'), h⟩
        · simp [execOp, ho, hv, hv2, e4, hr]
        · show (w.heap.setIfInBounds b _)[k]? = _
          rw [Array.getElem?_setIfInBounds_ne (fun e => hne (by rw [hb, e]))]
        · show (w.heap.setIfInBounds b _)[b]? = _
          rw [Array.getElem?_setIfInBounds_self, if_pos hlt]
      rcases find_spec (f := f) hi hk g s m arr.toList 0 e3 with ⟨k1, k2, k3⟩ | ⟨q, e, c', k1, k2, k4, k5, k6, k7⟩
      · refine fin (arr.push ⟨kf s, x, clock⟩) (clock + 1) ?_ ?_
        · simp [Instr.mapUpdate, run_underlying ht, MapKept.run_getObj_map e2, MapKept.run_checkKey hkt (hk s), MapKept.run_findKey hkt k2, MapKept.run_setObj_map _ e2, Result.andThen]
        · rw [k3]
          unfold encM at e3 ⊢
          rw [List.map_append, Array.toList_push]
          exact e3.append ⟨rfl, e5⟩
      · refine fin (arr.modify q fun e => { e with key := kf s, val := x }) clock ?_ ?_
        · have k4' : arr[q]? = some e := by simpa using k4
          simp [Instr.mapUpdate, run_underlying ht, MapKept.run_getObj_map e2, MapKept.run_checkKey hkt (hk s), MapKept.run_findKey hkt k2, MapKept.run_setObj_map _ e2, Result.andThen, k4', k5, MapKept.run_keyThatStays (hk s)]
        · have hm : (arr.modify q fun e => { e with key := kf s, val := x }).toList = arr.toList.set q { e with key := kf s, val := x } := by
            rw [Array.toList_modify, Go.ChangeMaps.modify_eq_set _ _ _ _ k4]
          rw [hm]
          exact k7 c x e5
end

theorem string_key (s : ByteArray) : IsKey .string (.string s) := trivial
theorem string_inj (a b : ByteArray) (h : Value.string a = Value.string b) : a = b := by cases h; rfl
theorem int_key {k : IntKind} (s : Int) : IsKey (.int k) (.int k s) := rfl
theorem int_inj {k : IntKind} (a b : Int) (h : Value.int k a = Value.int k b) : a = b := by cases h; rfl
end Go.Avl
/- Fields of our own objects, told otherwise within a region. -/
namespace Go.Avl
open Go Go.RowKit
set_option linter.unusedVariables false
set_option linter.unusedSectionVars false
section
variable {P : Program} {N : Nat} {ops : Array Oper} {rest : List Oper} {K : Env → Heap → Prop} {ρ : Env} {H : Heap}
/-- A field's own row is frozen where it lies. -/
theorem AO.freezeFld (i j : Nat) {m o' n off len z : Nat} {els els' : List AV} {X X' : AV} (hi : H[i]? = some (n, .mem (.ar z els))) (hj : H[j]? = some (m, .mem X)) (hp : Put X o' (.own n off len) (.fz z els') X') (hle : off + len ≤ els.length) (hx : (els.drop off).take len = els')
    (harz : X'.arz = X.arz) (hcap : X'.capn = X.capn) (hij : i ≠ j) (h : AO P N ops rest K ρ ((H.set j (m, .mem X')).eraseIdx i)) : AO P N ops rest K ρ H := by
  intro F g a w R h1 h2 h3 h4
  obtain ⟨g', k1, k2, k3⟩ := h3.freeze hi
  refine h F g' a w R (h1.mono k1) h2 ?_ fun g2 ρ' H' a' w' j1 j2 j3 j4 j5 j6 => h4 g2 ρ' H' a' w' (k1.trans j1) j2 j3 j4 j5 j6
  refine k2.retell ?_ fun n' m' hm => ?_
  · rw [map_eraseIdx', map_eraseIdx', map_set_eraseIdx (fun x : Nat × Mem => x.1) hj (b := (m, .mem X')) rfl]
  · rw [List.mem_eraseIdx_iff_getElem?] at hm
    obtain ⟨k, hk, e⟩ := hm
    by_cases hkj : j = k
    · subst hkj
      rw [List.getElem?_set_self (List.getElem?_eq_some_iff.1 hj).1] at e
      cases e
      refine ⟨.mem X, List.mem_eraseIdx_iff_getElem?.2 ⟨j, hk, hj⟩, fun p s => s.put hp rfl (fun v hv => ?_) harz hcap⟩
      rw [← hx]
      exact k3 _ _ _ hle hv
    · rw [List.getElem?_set_ne hkj] at e
      exact ⟨m', List.mem_eraseIdx_iff_getElem?.2 ⟨k, hk, e⟩, fun _ s => s⟩

theorem AO.nilOwnFld (j z : Nat) {m o' : Nat} {X : AV} (X' : Nat → AV) (hj : H[j]? = some (m, .mem X)) (hp : ∀ n, Put X o' (.fl (.slice none 0 0)) (.own n 0 0) (X' n)) (harz : ∀ n, (X' n).arz = X.arz) (hcap : ∀ n, (X' n).capn = X.capn)
    (h : ∀ n, AO P N ops rest K ρ ((n, .mem (.ar z [])) :: H.set j (m, .mem (X' n)))) : AO P N ops rest K ρ H := by
  intro F g a w R h1 h2 h3 h4
  have hs := nilOwn_core h3 z
  refine h g.nm.length F { g with nm := g.nm ++ [⟨none, 0, 0, z⟩] } a w R (h1.mono (G.le.push g _)) h2 ?_ fun g2 ρ' H' a' w' j1 j2 j3 j4 j5 j6 => h4 g2 ρ' H' a' w' ((G.le.push g _).trans j1) j2 j3 j4 j5 j6
  refine hs.retell (by simp [map_set_eraseIdx _ hj]) fun n' m' hm => ?_
  rcases List.mem_cons.1 hm with e | hm
  · cases e; exact ⟨_, List.mem_cons_self, fun _ s => s⟩
  · rcases List.mem_or_eq_of_mem_set hm with e | e
    · exact ⟨m', List.mem_cons_of_mem _ e, fun _ s => s⟩
    · cases e
      refine ⟨.mem X, List.mem_cons_of_mem _ (List.mem_of_getElem? hj), fun p s => s.put (hp _) rfl (fun v hv => ?_) (harz _) (hcap _)⟩
      cases hv; exact own_nil g z

end
end Go.Avl
/- Facts on lists of pairs as maps. -/
namespace Go.Avl
set_option linter.all false
section
variable {α β : Type} [DecidableEq α]
theorem mget_mput (m : List (α × β)) (s : α) (v : β) (t : α) : mget (mput m s v) t = if s = t then some v else mget m t := by
  induction m with
  | nil => simp only [mput, mget]
  | cons e m ih =>
    simp only [mput]
    by_cases q : e.1 = s
    · rw [if_pos q, mget]
      by_cases r : s = t
      · rw [if_pos r, if_pos r]
      · rw [if_neg r, if_neg r, mget, if_neg (fun h => r (q.symm.trans h))]
    · rw [if_neg q, mget, ih]
      by_cases r : e.1 = t
      · rw [if_pos r, mget, if_pos r, if_neg (fun h => q (r.trans h.symm))]
      · rw [if_neg r]
        by_cases u : s = t
        · rw [if_pos u, if_pos u]
        · rw [if_neg u, if_neg u, mget, if_neg r]
theorem mput_none {m : List (α × β)} {s : α} {v : β} (h : mget m s = none) : mput m s v = m ++ [(s, v)] := by
  induction m with
  | nil => rfl
  | cons e m ih =>
    simp only [mget] at h
    by_cases q : e.1 = s
    · rw [if_pos q] at h; cases h
    · rw [if_neg q] at h
      rw [mput, if_neg q, ih h]; rfl
end
end Go.Avl
/- Regions whose operations come in any order, with operations that make objects and that store: each operation shown once, over each state of the objects that it may meet. -/
namespace Go.Avl
open Go Go.RowKit
set_option linter.all false

def upd (σ : Nat → Nat) (i n : Nat) : Nat → Nat := fun j => if j = i then n else σ j
def addL (L : Nat → Bool) (i : Nat) : Nat → Bool := fun j => if j = i then true else L j
def Lof (listed : Array Bool) : Nat → Bool := fun j => listed.getD j true
theorem Lof_set {listed : Array Bool} {i : Nat} (hi : i < listed.size) : Lof (listed.setIfInBounds i true) = addL (Lof listed) i := by
  funext j
  show (listed.setIfInBounds i true).getD j true = if j = i then true else listed.getD j true
  rw [Array.getD_eq_getD_getElem?, Array.getD_eq_getD_getElem?, Array.getElem?_setIfInBounds]
  by_cases e : i = j
  · subst e; rw [if_pos rfl, if_pos hi, if_pos rfl]; rfl
  · rw [if_neg e, if_neg (fun h => e h.symm)]
def effB (l : List Oper) : Bool :=
  decide ((l.filterMap (·.dst)).Nodup) &&
  (List.range l.length).all fun i => ((l[i]?).map fun o => o.after.toList.all fun e => !(Region.binds .any e) || decide (e.on < i)).getD true
structure EffOK (l : List Oper) : Prop where
  nodup : ∀ (i j : Nat) (o p : Oper) (d : Nat), l[i]? = some o → l[j]? = some p → o.dst = some d → p.dst = some d → i = j
  back : ∀ (i : Nat) (o : Oper), l[i]? = some o → ∀ e ∈ o.after.toList, Region.binds .any e = true → e.on < i
theorem nodup_filterMap {α β : Type} (f : α → Option β) : ∀ {l : List α}, (l.filterMap f).Nodup → ∀ (i j : Nat) (a b : α) (d : β), l[i]? = some a → l[j]? = some b → f a = some d → f b = some d → i = j
  | [], _, i, j, a, b, d, h, _, _, _ => by simp at h
  | x :: l, hn, i, j, a, b, d, h1, h2, e1, e2 => by
    have hmem : ∀ (k : Nat) (y : α), l[k]? = some y → f y = some d → d ∈ l.filterMap f := fun k y hk hy => List.mem_filterMap.2 ⟨y, List.mem_of_getElem? hk, hy⟩
    cases hx : f x with
    | none =>
      rw [List.filterMap_cons_none hx] at hn
      cases i with
      | zero => simp at h1; subst h1; rw [hx] at e1; cases e1
      | succ i =>
        cases j with
        | zero => simp at h2; subst h2; rw [hx] at e2; cases e2
        | succ j => simp at h1 h2; rw [nodup_filterMap f hn i j a b d h1 h2 e1 e2]
    | some z =>
      rw [List.filterMap_cons_some hx] at hn
      obtain ⟨n1, n2⟩ := List.nodup_cons.1 hn
      cases i with
      | zero =>
        simp at h1; subst h1
        rw [hx] at e1; cases e1
        cases j with
        | zero => rfl
        | succ j => simp at h2; exact absurd (hmem j b h2 e2) n1
      | succ i =>
        simp at h1
        cases j with
        | zero =>
          simp at h2; subst h2
          rw [hx] at e2; cases e2
          exact absurd (hmem i a h1 e1) n1
        | succ j => simp at h2; rw [nodup_filterMap f n2 i j a b d h1 h2 e1 e2]
theorem effB_ok {l : List Oper} (h : effB l = true) : EffOK l := by
  simp only [effB, Bool.and_eq_true, List.all_eq_true, decide_eq_true_eq] at h
  obtain ⟨h2, h4⟩ := h
  refine ⟨fun i j o p d hi hj e1 e2 => nodup_filterMap (·.dst) h2 i j o p d hi hj e1 e2, fun i o ho e he => ?_⟩
  have hlt := (List.getElem?_eq_some_iff.1 ho).1
  have := h4 i (List.mem_range.2 hlt)
  rw [ho] at this
  simp only [Option.map_some, Option.getD_some, List.all_eq_true] at this
  exact fun hb => by have := this e he; rw [hb] at this; simpa using this

def Clo (l : List Oper) (L : Nat → Bool) : Prop := ∀ (j : Nat) p, l[j]? = some p → L j = true → ∀ e ∈ p.after.toList, Region.binds .any e = true → L e.on = true
/-- What an operation has to show. -/
def StepE (P : Program) (N : Nat) (ops : Array Oper) (l : List Oper) (xs : (Nat → Nat) → List AV) (Hs : (Nat → Bool) → (Nat → Nat) → Heap) (ρ0 : Env) (i : Nat) (o : Oper) : Prop :=
  ∀ (L : Nat → Bool) (σ : Nat → Nat), Clo l L → L i = false → (∀ e ∈ o.after.toList, Region.binds .any e = true → L e.on = true) →
    AO P N ops [o] (fun ρ' H' => ∃ σ', (∀ j, L j = true → (xs σ')[j]? = (xs σ)[j]?) ∧ (∀ d, o.dst = some d → ∃ x, (xs σ')[i]? = some x ∧ ρ'.lookup d = some x) ∧ Sub (Hs (addL L i) σ') H') (needEnv (l.zip (xs σ)) o ++ outer (l.zip (xs σ)) ρ0 i) (Hs L σ)
def StepsE (P : Program) (N : Nat) (ops : Array Oper) (l : List Oper) (xs : (Nat → Nat) → List AV) (Hs : (Nat → Bool) → (Nat → Nat) → Heap) (ρ0 : Env) : Nat → List Oper → Prop
  | _, [] => True
  | k, o :: r => StepE P N ops l xs Hs ρ0 k o ∧ StepsE P N ops l xs Hs ρ0 (k + 1) r
theorem StepsE.get {P : Program} {N : Nat} {ops : Array Oper} {l : List Oper} {xs : (Nat → Nat) → List AV} {Hs : (Nat → Bool) → (Nat → Nat) → Heap} {ρ0 : Env} : ∀ {r : List Oper} {k : Nat}, StepsE P N ops l xs Hs ρ0 k r → ∀ {i : Nat} {o}, r[i]? = some o → StepE P N ops l xs Hs ρ0 (k + i) o
  | [], _, _, i, p, h => by simp at h
  | q :: r, _, hh, 0, p, h => by simp at h; subst h; exact hh.1
  | q :: r, k, hh, i + 1, p, h => by simp at h; have := StepsE.get hh.2 h; rwa [show k + 1 + i = k + (i + 1) by omega] at this

structure EffInv (F : Fr) (g : G) (ρ0 : Env) (N : Nat) (ds : List Deferred) (l : List Oper) (xs : (Nat → Nat) → List AV) (Hs : (Nat → Bool) → (Nat → Nat) → Heap) (listed : Array Bool) (a : Act) (w : World) : Prop where
  inv : ∃ g' σ, g.le g' ∧ (∀ t x, ρ0.lookup t = some x → (∀ (j : Nat) p, l[j]? = some p → Lof listed j = true → p.dst ≠ some t) → V g' x (a.tmps.getD t undef)) ∧ (∀ (j : Nat) p d x, l[j]? = some p → Lof listed j = true → p.dst = some d → (xs σ)[j]? = some x → V g' x (a.tmps.getD d undef)) ∧ WSat F g' (Hs (Lof listed) σ) w
  size : a.tmps.size = N
  defers : a.defers = ds
  closed : Clo l (Lof listed)

section
variable {P : Program} {N : Nat} {F : Fr} {g : G} {ρ0 : Env} {ds : List Deferred} {l : List Oper} {xs : (Nat → Nat) → List AV} {Hs : (Nat → Bool) → (Nat → Nat) → Heap} {R : Exit → Act → World → Prop}
theorem eff_step (hlen : ∀ σ, (xs σ).length = l.length) (hB : EffOK l) (hS : StepsE P N l.toArray l xs Hs ρ0 0 l) {listed : Array Bool} (hsz : listed.size = l.length) {a : Act} {w : World} (inv : EffInv F g ρ0 N ds l xs Hs listed a w) {i : Nat} (hi : i ∈ Region.ready .any l.toArray listed) :
    wpOp P l.toArray R i (fun a' w' => EffInv F g ρ0 N ds l xs Hs (listed.setIfInBounds i true) a' w') a w := by
  obtain ⟨k1, k2, o, ho, k3'⟩ := ready_spec hi
  have hol : l[i]? = some o := by simpa using ho
  have hil : i < l.length := (List.getElem?_eq_some_iff.1 hol).1
  have hit : i < listed.size := by omega
  have k3 : ∀ e ∈ o.after.toList, Region.binds .any e = true → Lof listed e.on = true := fun e he hb => by
    have := k3' e he hb
    have hlt := hB.back i o hol e he hb
    unfold Lof
    rw [Array.getD_eq_getD_getElem?, Array.getElem?_eq_getElem (by omega)] at this ⊢
    exact this
  obtain ⟨g', σ, q1, q2, q3, q4⟩ := inv.inv
  have hao := (hS.get hol)
  rw [Nat.zero_add] at hao
  have hao := hao (Lof listed) σ inv.closed k2 k3
  have zg : ∀ (j : Nat) p, (l.zip (xs σ))[j]? = some p → l[j]? = some p.1 ∧ (xs σ)[j]? = some p.2 := fun j p h => List.getElem?_zip_eq_some.1 h
  have hes : ESat g' (needEnv (l.zip (xs σ)) o ++ outer (l.zip (xs σ)) ρ0 i) a := by
    intro t y hy
    rw [lookup_append'] at hy
    cases hn : (needEnv (l.zip (xs σ)) o).lookup t with
    | none =>
      rw [hn] at hy
      obtain ⟨u1, u2⟩ := lookup_filter (f := keeps (l.zip (xs σ)) i) (show (outer (l.zip (xs σ)) ρ0 i).lookup t = some y by simpa using hy)
      refine q2 t y u2 fun j p hp hl hdt => ?_
      have hj : j < l.length := (List.getElem?_eq_some_iff.1 hp).1
      have hz : (l.zip (xs σ))[j]? = some (p, (xs σ)[j]'(by rw [hlen]; exact hj)) := by
        rw [List.getElem?_zip_eq_some]; exact ⟨hp, List.getElem?_eq_getElem (by rw [hlen]; exact hj)⟩
      have := List.all_eq_true.1 u1 _ (List.mem_of_getElem? hz)
      simp only [Bool.or_eq_true, bne_iff_ne, ne_eq, hdt, not_true, false_or, List.any_eq_true, Bool.and_eq_true, beq_iff_eq] at this
      obtain ⟨e, he, hb, hon⟩ := this
      have hc := inv.closed j p hp hl e he hb
      rw [hon] at hc
      have k2' : Lof listed i = false := k2
      rw [k2'] at hc; cases hc
    | some z =>
      rw [hn] at hy; cases hy
      have hm := lookup_mem hn
      simp only [needEnv, List.mem_filterMap] at hm
      obtain ⟨e, he, hf⟩ := hm
      by_cases hb : Region.binds .any e = true
      · rw [if_pos hb] at hf
        cases hp : (l.zip (xs σ))[e.on]? with
        | none => rw [hp] at hf; cases hf
        | some p =>
          rw [hp] at hf
          simp only [Option.bind_some, Option.map_eq_some_iff] at hf
          obtain ⟨d', hd', he'⟩ := hf
          cases he'
          obtain ⟨z1, z2⟩ := zg _ _ hp
          exact q3 e.on p.1 _ _ z1 (k3 e he hb) hd' z2
      · rw [if_neg hb] at hf; cases hf
  let KK : Env → Heap → Prop := fun ρ' H' => ∃ σ', (∀ j, Lof listed j = true → (xs σ')[j]? = (xs σ)[j]?) ∧ (∀ d, o.dst = some d → ∃ x, (xs σ')[i]? = some x ∧ ρ'.lookup d = some x) ∧ Sub (Hs (addL (Lof listed) i) σ') H'
  have wl := hao F g' a w (fun e a' w' => match e with
    | .normal => ∃ g'' ρ' H', g'.le g'' ∧ ESat g'' ρ' a' ∧ a'.tmps.size = N ∧ a'.defers = a.defers ∧ WSat F g'' H' w' ∧ KK ρ' H'
    | e => R e a' w') hes inv.size q4 (fun g'' ρ' H' a' w' j1 j2 j3 j4 j5 j6 => ⟨g'', ρ', H', j1, j2, j3, j4, j5, j6⟩)
  have fin : ∀ a' w', (∃ g'' ρ' H', g'.le g'' ∧ ESat g'' ρ' a' ∧ a'.tmps.size = N ∧ a'.defers = a.defers ∧ WSat F g'' H' w' ∧ KK ρ' H') → (∃ v, a'.tmps = (a.put o.dst v).tmps) →
      EffInv F g ρ0 N ds l xs Hs (listed.setIfInBounds i true) a' w' := by
    rintro a' w' ⟨g'', ρ', H', j1, j2, j3, j4, j5, σ', s1, s2, s3⟩ ⟨v, hv⟩
    have old : ∀ t, o.dst ≠ some t → a'.tmps.getD t undef = a.tmps.getD t undef := fun t ht => by
      rw [hv]
      cases hd : o.dst with
      | none => rfl
      | some d => exact getD_put (fun e => ht (by rw [hd, e]))
    have hL := Lof_set hit
    have stays : ∀ j, Lof listed j = true → Lof (listed.setIfInBounds i true) j = true := fun j hj => by
      rw [hL]; unfold addL; split
      · rfl
      · exact hj
    have back : ∀ j, Lof (listed.setIfInBounds i true) j = true → j = i ∨ Lof listed j = true := fun j hj => by
      rw [hL] at hj; unfold addL at hj
      by_cases e : j = i
      · exact .inl e
      · rw [if_neg e] at hj; exact .inr hj
    have now : Lof (listed.setIfInBounds i true) i = true := by rw [hL]; unfold addL; rw [if_pos rfl]
    refine ⟨⟨g'', σ', q1.trans j1, ?_, ?_, by rw [hL]; exact j5.sub s3⟩, j3, j4.trans inv.defers, fun j p hp hl e he hb => ?_⟩
    · intro t y hy hfree
      have ht : o.dst ≠ some t := hfree i o hol now
      rw [old t ht]; exact (q2 t y hy fun j p hp hl => hfree j p hp (stays j hl)).mono j1
    · intro j p e x hp hl he hx
      by_cases hji : j = i
      · subst hji
        have hpo : p = o := Option.some.inj (hp.symm.trans hol)
        subst hpo
        obtain ⟨x', hx', hlk⟩ := s2 e he
        have : x' = x := Option.some.inj (hx'.symm.trans hx)
        subst this
        exact j2 e x' hlk
      · have hlj := (back j hl).resolve_left hji
        have hne : o.dst ≠ some e := fun h => hji (hB.nodup j i p o e hp hol he h)
        rw [old e hne]
        exact (q3 j p e x hp hlj he ((s1 j hlj).symm.trans hx)).mono j1
    · rcases back j hl with h' | h'
      · subst h'
        have hpo : p = o := Option.some.inj (hp.symm.trans hol)
        subst hpo
        exact stays _ (k3 e he hb)
      · exact stays _ (inv.closed j p hp h' e he hb)
  unfold wpOp
  rw [ho]
  simp only [wpList] at wl
  show (if Region.wanted o (yielded l.toArray a.tmps) = true then _ else _)
  by_cases hw : Region.wanted o (yielded l.toArray a.tmps) = true
  · rw [if_pos hw] at wl ⊢
    refine wp_conv (Q := fun e a' w' => match e with
      | .normal => ∃ g'' ρ' H', g'.le g'' ∧ ESat g'' ρ' a' ∧ a'.tmps.size = N ∧ a'.defers = a.defers ∧ WSat F g'' H' w' ∧ KK ρ' H'
      | e => R e a' w') (fun e a w he h => by cases e <;> first | exact absurd rfl he | exact h) (fun a' w' h => fin a' w' h.1 h.2) (wl.imp wp_put id)
  · rw [if_neg hw] at wl ⊢
    refine fin _ _ wl ⟨undef, ?_⟩
    cases o.dst <;> rfl
theorem eff_listed {listed : Array Bool} (hB : EffOK l) (hsz : listed.size = l.length) (h : Region.ready .any l.toArray listed = []) : Lof listed = fun _ => true := by
  have key : ∀ i, i < l.length → listed.getD i true = true := by
    intro i
    induction i using Nat.strongRecOn with
    | _ i ih =>
      intro hi
      cases hc : listed.getD i true with
      | true => rfl
      | false =>
        exfalso
        have hr : i ∈ Region.ready .any l.toArray listed := ready_of (o := l[i]) (by simp [hi]) hc (fun e he hbd => by
          have hlt := hB.back i l[i] (by simp [hi]) e he hbd
          have := ih e.on hlt (by omega)
          rw [Array.getD_eq_getD_getElem?, Array.getElem?_eq_getElem (by omega)] at this ⊢
          exact this)
        rw [h] at hr; cases hr
  funext j
  by_cases hj : j < l.length
  · exact key j hj
  · unfold Lof
    rw [Array.getD_eq_getD_getElem?, Array.getElem?_eq_none (by omega)]; rfl
theorem eff_main (hlen : ∀ σ, (xs σ).length = l.length) (hB : EffOK l) (hS : StepsE P N l.toArray l xs Hs ρ0 0 l)
    (hk : ∀ listed a' w', Lof listed = (fun _ => true) → EffInv F g ρ0 N ds l xs Hs listed a' w' → R .normal a' w') : ∀ (fuel : Nat) (listed : Array Bool) (a : Act) (w : World), listed.size = l.length → listed.toList.count false ≤ fuel → EffInv F g ρ0 N ds l xs Hs listed a w →
    wpAny P .any l.toArray R fuel listed a w := by
  intro fuel
  induction fuel with
  | zero =>
    intro listed a w hsz hc inv
    have hr : Region.ready .any l.toArray listed = [] := by
      cases e : Region.ready .any l.toArray listed with
      | nil => rfl
      | cons i r =>
        exfalso
        obtain ⟨k1, k2, _⟩ := ready_spec (i := i) (by rw [e]; simp)
        have hi : i < listed.size := by simpa [hsz] using k1
        rw [Array.getD_eq_getD_getElem?, Array.getElem?_eq_getElem hi] at k2
        have : false ∈ listed.toList := by rw [← show listed[i] = false from k2]; simp
        have := List.count_pos_iff.2 this
        omega
    exact ⟨hr, hk listed a w (eff_listed hB hsz hr) inv⟩
  | succ fuel ih =>
    intro listed a w hsz hc inv
    refine ⟨fun hr => hk listed a w (eff_listed hB hsz hr) inv, fun i hi => wpOp_mono (fun a' w' h => ih _ a' w' (by simpa using hsz) ?_ h) (eff_step hlen hB hS hsz inv hi)⟩
    obtain ⟨k1, k2, _⟩ := ready_spec hi
    have hi' : i < listed.size := by simpa [hsz] using k1
    rw [Array.getD_eq_getD_getElem?, Array.getElem?_eq_getElem hi'] at k2
    have hf : listed.toList[i]'(by simpa using hi') = false := by simpa using k2
    have e2 : (listed.toList.set i true).count false = listed.toList.count false - 1 + 0 := by
      rw [List.count_set (by simpa using hi'), hf]; rfl
    have : false ∈ listed.toList := by rw [← hf]; exact List.getElem_mem _
    have := List.count_pos_iff.2 this
    rw [Array.toList_setIfInBounds, e2]
    omega
end

theorem unnil {P : Program} {ops : Array Oper} {R : Exit → Act → World → Prop} {a : Act} {w : World} (h : wpList P ops R [] a w) : R .normal a w := by simpa [wpList] using h
theorem AO.heq {P : Program} {N : Nat} {ops : Array Oper} {rest : List Oper} {K : Env → Heap → Prop} {ρ : Env} {H : Heap} (H' : Heap) (e : H = H') (h : AO P N ops rest K ρ H') : AO P N ops rest K ρ H := by rw [e]; exact h
theorem Sub.of_eq {A B C : Heap} (e : A = B) (h : Sub B C) : Sub A C := by rw [e]; exact h
theorem AW.regEff {P : Program} {N : Nat} {ρ : Env} {H : Heap} {Q : Exit → Env → Heap → Prop} {id : Nat} {l : List Oper} (hm : P.follows .mixedOrders = true) (hB : effB l = true) (xs : (Nat → Nat) → List AV) (Hs : (Nat → Bool) → (Nat → Nat) → Heap) (ρ0 : Env) (hs : ESub ρ0 ρ) (hlen : ∀ σ, (xs σ).length = l.length)
    (h0 : ∀ σ, Sub (Hs (fun j => !decide (j < l.length)) σ) H) (h : StepsE P N l.toArray l xs Hs ρ0 0 l) (ρ' : (Nat → Nat) → Env) (H' : (Nat → Nat) → Heap) (he : ∀ σ, ESub (ρ' σ) (ends (l.zip (xs σ)) ++ ρ0)) (hH : ∀ σ, Sub (H' σ) (Hs (fun _ => true) σ)) (hk : ∀ σ, AO P N #[] [] (Q .normal) (ρ' σ) (H' σ)) : AW P N (.region id l.toArray true) Q ρ H := by
  intro F g a w R h1 h2 h3 h4
  refine wp_region_any hm ?_
  have hB' := effB_ok hB
  have h3' : WSat F g H { w with drawn := w.drawn + 1 } := h3.of_below (Below.refl _ _).drew
  have e0 : Lof (Array.replicate l.length false) = fun j => !decide (j < l.length) := by
    funext j
    unfold Lof
    rw [Array.getD_eq_getD_getElem?]
    by_cases hj : j < l.length
    · simp [hj]
    · simp [hj]
  have no : ∀ (j : Nat) p, l[j]? = some p → Lof (Array.replicate l.length false) j = true → False := fun j p hp hl => by
    rw [e0] at hl
    have := (List.getElem?_eq_some_iff.1 hp).1
    simp [this] at hl
  refine eff_main (F := F) (g := g) (ds := a.defers) hlen hB' h (fun listed a' w' hall inv => ?_) _ _ a _ (by simp) (by simp) ⟨⟨g, fun _ => 0, .refl g, fun t x hx _ => hs.sat h1 t x hx, fun j p d x hp hl _ _ => (no j p hp hl).elim, by rw [show (Array.replicate l.toArray.size false) = Array.replicate l.length false from rfl, e0]; exact h3'.sub (h0 _)⟩, h2, rfl, fun j p hp hl => (no j p hp hl).elim⟩
  obtain ⟨g', σ, q1, q2, q3, q4⟩ := inv.inv
  rw [hall] at q2 q3 q4
  refine unnil (hk σ F g' a' w' R ((he σ).sat ?_) inv.size (q4.sub (hH σ)) fun g2 ρ2 H2 a2 w2 j1 j2 j3 j4 j5 j6 => h4 _ g2 ρ2 H2 a2 w2 (q1.trans j1) j2 j3 (j4.trans inv.defers) j5 j6)
  intro t y hy
  rw [lookup_append'] at hy
  have zg : ∀ (j : Nat) p, (l.zip (xs σ))[j]? = some p → l[j]? = some p.1 ∧ (xs σ)[j]? = some p.2 := fun j p h => List.getElem?_zip_eq_some.1 h
  cases hn : (ends (l.zip (xs σ))).lookup t with
  | none =>
    rw [hn] at hy
    refine q2 t y (by simpa using hy) fun j p hp _ hd => ?_
    have hj : j < l.length := (List.getElem?_eq_some_iff.1 hp).1
    have hz : (l.zip (xs σ))[j]? = some (p, (xs σ)[j]'(by rw [hlen]; exact hj)) := by
      rw [List.getElem?_zip_eq_some]; exact ⟨hp, List.getElem?_eq_getElem (by rw [hlen]; exact hj)⟩
    have : (t, (xs σ)[j]'(by rw [hlen]; exact hj)) ∈ ends (l.zip (xs σ)) := by
      simp only [ends, List.mem_filterMap, Option.map_eq_some_iff]
      exact ⟨_, List.mem_of_getElem? hz, t, hd, rfl⟩
    exact lookup_none_mem hn this
  | some z =>
    rw [hn] at hy; cases hy
    obtain ⟨j, p, hp, hd, rfl⟩ := ends_get hn
    obtain ⟨z1, z2⟩ := zg _ _ hp
    exact q3 j p.1 t p.2 z1 rfl hd z2
/-- An operation that leaves our objects as they are. -/
theorem StepE.calm {P : Program} {N : Nat} {ops : Array Oper} {l : List Oper} {xs : (Nat → Nat) → List AV} {Hs : (Nat → Bool) → (Nat → Nat) → Heap} {ρ0 : Env} {i : Nat} {o : Oper} (hH : ∀ L σ, Hs (addL L i) σ = Hs L σ)
    (h : ∀ (L : Nat → Bool) (σ : Nat → Nat), Clo l L → L i = false → (∀ e ∈ o.after.toList, Region.binds .any e = true → L e.on = true) →
      AO P N ops [o] (fun ρ' H' => (∃ d x, o.dst = some d ∧ (xs σ)[i]? = some x ∧ ρ'.lookup d = some x) ∧ Sub (Hs L σ) H') (needEnv (l.zip (xs σ)) o ++ outer (l.zip (xs σ)) ρ0 i) (Hs L σ)) : StepE P N ops l xs Hs ρ0 i o :=
  fun L σ k1 k2 k3 => AO.mono (h L σ k1 k2 k3) fun ρ' H' hk => by
    obtain ⟨⟨d, x, e1, e2, e3⟩, e4⟩ := hk
    exact ⟨σ, fun _ _ => rfl, fun d' hd' => ⟨x, e2, by rw [← Option.some.inj (e1.symm.trans hd')]; exact e3⟩, by rw [hH]; exact e4⟩
def onB (p : Oper) (i : Nat) : Bool := p.after.toList.any fun e => Region.binds .any e && e.on == i
/-- Who is listed, those are that it needs. -/
theorem Clo.pos {l : List Oper} {L : Nat → Bool} (h : Clo l L) {i j : Nat} {p : Oper} (hp : l[j]? = some p) (hb : onB p i = true) (hj : L j = true) : L i = true := by
  simp only [onB, List.any_eq_true, Bool.and_eq_true, beq_iff_eq] at hb
  obtain ⟨e, he, h1, h2⟩ := hb
  rw [← h2]; exact h j p hp hj e he h1
theorem Clo.neg {l : List Oper} {L : Nat → Bool} (h : Clo l L) {i j : Nat} {p : Oper} (hp : l[j]? = some p) (hb : onB p i = true) (hi : L i = false) : L j = false := by
  cases q : L j with
  | false => rfl
  | true => rw [h.pos hp hb q] at hi; cases hi
theorem on_get {p : Oper} {L : Nat → Bool} (h : ∀ e ∈ p.after.toList, Region.binds .any e = true → L e.on = true) {i : Nat} (hb : onB p i = true) : L i = true := by
  simp only [onB, List.any_eq_true, Bool.and_eq_true, beq_iff_eq] at hb
  obtain ⟨e, he, h1, h2⟩ := hb
  rw [← h2]; exact h e he h1
end Go.Avl
/- Guarded operations without their guards; pointers compared with nil. -/
namespace Go.Avl
open Go Go.RowKit
set_option linter.all false
section
variable {P : Program} {N : Nat} {ops : Array Oper} {o : Oper} {rest : List Oper} {K : Env → Heap → Prop} {ρ : Env} {H : Heap}
theorem AO.unguard (j : Nat) (b : Bool) (e : Nat) (hg : o.guard = some (j, b)) (he : (ops[j]?).bind (·.dst) = some e) (hb : ρ.lookup e = some (.fl (.bool b)))
    (h : AO P N ops ({ o with guard := none } :: rest) K ρ H) : AO P N ops (o :: rest) K ρ H := by
  intro F g a w Q h1 h2 h3 h4
  have := h F g a w Q h1 h2 h3 h4
  unfold wpList at this ⊢
  rw [if_pos (wanted_none (o := { o with guard := none }) rfl _)] at this
  rw [if_pos (by rw [wanted_some hg he hb h1]; simp)]
  exact this
theorem Calm.ptrNilE {T T' E : TypeId} {y z : Operand} {n off : Nat} (ho : o.op = .binOp .eql T y z T') (hy : Env.ev ρ y = some (.ptr n off)) (hz : Env.ev ρ z = some (.fl (.pointer none))) (ht : P.underlying T = some (.pointer E)) : Calm P o ρ H (.fl (.bool false)) :=
  Calm.of_flat fun g a s w => by
    have e1 : Sim g (.ptr n off) [a.eval y] := s.ev hy
    have e2 : a.eval z = .pointer none := s.ev hz
    generalize hv : a.eval y = v at e1
    cases e1 with
    | @ptr _ _ p b hn hb =>
      have e5 : ∀ m, (Op.equalIn (m + 1) T (.pointer (some ⟨b, p.base + off, none⟩)) (.pointer none)).run P w = .ok false w := by
        intro m; simp [Op.equalIn, run_underlying ht]
      simp [execOp, ho, hv, e2, eqGuard, binOp, Op.equal, Op.maxDepth, e5 9999]
theorem Calm.ptrNilN {T T' E : TypeId} {y z : Operand} {n off : Nat} (ho : o.op = .binOp .neq T y z T') (hy : Env.ev ρ y = some (.ptr n off)) (hz : Env.ev ρ z = some (.fl (.pointer none))) (ht : P.underlying T = some (.pointer E)) : Calm P o ρ H (.fl (.bool true)) :=
  Calm.of_flat fun g a s w => by
    have e1 : Sim g (.ptr n off) [a.eval y] := s.ev hy
    have e2 : a.eval z = .pointer none := s.ev hz
    generalize hv : a.eval y = v at e1
    cases e1 with
    | @ptr _ _ p b hn hb =>
      have e5 : ∀ m, (Op.equalIn (m + 1) T (.pointer (some ⟨b, p.base + off, none⟩)) (.pointer none)).run P w = .ok false w := by
        intro m; simp [Op.equalIn, run_underlying ht]
      simp [execOp, ho, hv, e2, eqGuard, binOp, Op.equal, Op.maxDepth, e5 9999]
end
end Go.Avl
namespace Go.Avl
theorem elimN {α : Type} {p : Prop} {f : α → Prop} (h : p) : (none : Option α).elim p f := h
theorem elimS {α : Type} {p : Prop} {f : α → Prop} {x : α} (h : f x) : (some x).elim p f := h
theorem of_elimN {α β : Type} {o : Option α} {a : Option β} {f : α → Option β} {r : β} (ho : o = none) (h : o.elim a f = some r) : a = some r := by subst ho; exact h
theorem of_elimS {α β : Type} {o : Option α} {a : Option β} {f : α → Option β} {r : β} {x : α} (ho : o = some x) (h : o.elim a f = some r) : f x = some r := by subst ho; exact h
theorem of_elimQN {α : Type} {o : Option α} {a : Prop} {f : α → Prop} (ho : o = none) (h : o.elim a f) : a := by subst ho; exact h
theorem of_elimQS {α : Type} {o : Option α} {a : Prop} {f : α → Prop} {x : α} (ho : o = some x) (h : o.elim a f) : f x := by subst ho; exact h
end Go.Avl
namespace Go.Avl
open Go Go.RowKit
theorem Calm.nilNilE {P : Program} {o : Oper} {ρ : Env} {H : Heap} {T T' E : TypeId} {y z : Operand} (ho : o.op = .binOp .eql T y z T') (hy : Env.ev ρ y = some (.fl (.pointer none))) (hz : Env.ev ρ z = some (.fl (.pointer none))) (ht : P.underlying T = some (.pointer E)) : Calm P o ρ H (.fl (.bool true)) :=
  Calm.of_flat fun g a s w => by
    have e1 : a.eval y = .pointer none := s.ev hy
    have e2 : a.eval z = .pointer none := s.ev hz
    have e5 : ∀ m, (Op.equalIn (m + 1) T (.pointer none) (.pointer none)).run P w = .ok true w := by
      intro m; simp [Op.equalIn, run_underlying ht]
    simp [execOp, ho, e1, e2, eqGuard, binOp, Op.equal, Op.maxDepth, e5 9999]
theorem Calm.nilNilN {P : Program} {o : Oper} {ρ : Env} {H : Heap} {T T' E : TypeId} {y z : Operand} (ho : o.op = .binOp .neq T y z T') (hy : Env.ev ρ y = some (.fl (.pointer none))) (hz : Env.ev ρ z = some (.fl (.pointer none))) (ht : P.underlying T = some (.pointer E)) : Calm P o ρ H (.fl (.bool false)) :=
  Calm.of_flat fun g a s w => by
    have e1 : a.eval y = .pointer none := s.ev hy
    have e2 : a.eval z = .pointer none := s.ev hz
    have e5 : ∀ m, (Op.equalIn (m + 1) T (.pointer none) (.pointer none)).run P w = .ok true w := by
      intro m; simp [Op.equalIn, run_underlying ht]
    simp [execOp, ho, e1, e2, eqGuard, binOp, Op.equal, Op.maxDepth, e5 9999]
end Go.Avl
