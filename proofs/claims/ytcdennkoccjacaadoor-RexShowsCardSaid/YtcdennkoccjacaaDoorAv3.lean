/- Parts: Av23, Av24, Av25, Av26, Av27, Av28, Av29, Av30, Av31. -/
import Derived.Test.YtcdennkoccjacaaDoorAv2
import Derived.Maps.Keyed
import Derived.Carry
import Derived.Scope
/- Rows made at once, over lists. -/
namespace Go.Avl
open Go Go.RowKit
set_option linter.all false
section
variable {P : Program} {N : Nat} {ops : Array Oper} {o : Oper} {rest : List Oper} {K : Env → Heap → Prop} {ρ : Env} {H : Heap}
end
end Go.Avl
/- Maps of our own, as lists of pairs. -/
namespace Go.Avl
open Go Go.RowKit Go.MapKept
set_option linter.unusedVariables false
set_option linter.unusedSectionVars false

theorem All2.append {α β : Type} {R : α → β → Prop} {l : List α} {m : List β} (s : All2 R l m) {a : α} {b : β} (h : R a b) : All2 R (l ++ [a]) (m ++ [b]) := by
  induction s with
  | nil => exact .cons h .nil
  | cons x _ ih => exact .cons x ih

section
variable {α β : Type} [DecidableEq α] {kf : α → Value} {f : β → AV} {d : TypeDesc}
variable {P : Program} {N : Nat} {ops : Array Oper} {o : Oper} {rest : List Oper} {K : Env → Heap → Prop} {ρ : Env} {H : Heap} {x : AV}

end

end Go.Avl
/- Fields of our own objects, told otherwise within a region. -/
namespace Go.Avl
open Go Go.RowKit
set_option linter.unusedVariables false
set_option linter.unusedSectionVars false
section
variable {P : Program} {N : Nat} {ops : Array Oper} {rest : List Oper} {K : Env → Heap → Prop} {ρ : Env} {H : Heap}
end
end Go.Avl
/- Facts on lists of pairs as maps. -/
namespace Go.Avl
set_option linter.all false
section
variable {α β : Type} [DecidableEq α]
end
end Go.Avl
/- Regions whose operations come in any order, with operations that make objects and that store: each operation shown once, over each state of the objects that it may meet. -/
namespace Go.Avl
open Go Go.RowKit
set_option linter.all false

def upd (σ : Nat → Nat) (i n : Nat) : Nat → Nat := fun j => if j = i then n else σ j
def addL (L : Nat → Bool) (i : Nat) : Nat → Bool := fun j => if j = i then true else L j
def Lof (listed : Array Bool) : Nat → Bool := fun j => listed.getD j true
theorem Lof_set {listed : Array Bool} {i : Nat} (hi : i < listed.size) : Lof (listed.setIfInBounds i true) = addL (Lof listed) i := by
  funext j
  show (listed.setIfInBounds i true).getD j true = if j = i then true else listed.getD j true
  rw [Array.getD_eq_getD_getElem?, Array.getD_eq_getD_getElem?, Array.getElem?_setIfInBounds]
  by_cases e : i = j
  · subst e; rw [if_pos rfl, if_pos hi, if_pos rfl]; rfl
  · rw [if_neg e, if_neg (fun h => e h.symm)]
def effB (l : List Oper) : Bool :=
  decide ((l.filterMap (·.dst)).Nodup) &&
  (List.range l.length).all fun i => ((l[i]?).map fun o => o.after.toList.all fun e => !(Region.binds .any e) || decide (e.on < i)).getD true
structure EffOK (l : List Oper) : Prop where
  nodup : ∀ (i j : Nat) (o p : Oper) (d : Nat), l[i]? = some o → l[j]? = some p → o.dst = some d → p.dst = some d → i = j
  back : ∀ (i : Nat) (o : Oper), l[i]? = some o → ∀ e ∈ o.after.toList, Region.binds .any e = true → e.on < i
theorem nodup_filterMap {α β : Type} (f : α → Option β) : ∀ {l : List α}, (l.filterMap f).Nodup → ∀ (i j : Nat) (a b : α) (d : β), l[i]? = some a → l[j]? = some b → f a = some d → f b = some d → i = j
  | [], _, i, j, a, b, d, h, _, _, _ => by simp at h
  | x :: l, hn, i, j, a, b, d, h1, h2, e1, e2 => by
    have hmem : ∀ (k : Nat) (y : α), l[k]? = some y → f y = some d → d ∈ l.filterMap f := fun k y hk hy => List.mem_filterMap.2 ⟨y, List.mem_of_getElem? hk, hy⟩
    cases hx : f x with
    | none =>
      rw [List.filterMap_cons_none hx] at hn
      cases i with
      | zero => simp at h1; subst h1; rw [hx] at e1; cases e1
      | succ i =>
        cases j with
        | zero => simp at h2; subst h2; rw [hx] at e2; cases e2
        | succ j => simp at h1 h2; rw [nodup_filterMap f hn i j a b d h1 h2 e1 e2]
    | some z =>
      rw [List.filterMap_cons_some hx] at hn
      obtain ⟨n1, n2⟩ := List.nodup_cons.1 hn
      cases i with
      | zero =>
        simp at h1; subst h1
        rw [hx] at e1; cases e1
        cases j with
        | zero => rfl
        | succ j => simp at h2; exact absurd (hmem j b h2 e2) n1
      | succ i =>
        simp at h1
        cases j with
        | zero =>
          simp at h2; subst h2
          rw [hx] at e2; cases e2
          exact absurd (hmem i a h1 e1) n1
        | succ j => simp at h2; rw [nodup_filterMap f n2 i j a b d h1 h2 e1 e2]
theorem effB_ok {l : List Oper} (h : effB l = true) : EffOK l := by
  simp only [effB, Bool.and_eq_true, List.all_eq_true, decide_eq_true_eq] at h
  obtain ⟨h2, h4⟩ := h
  refine ⟨fun i j o p d hi hj e1 e2 => nodup_filterMap (·.dst) h2 i j o p d hi hj e1 e2, fun i o ho e he => ?_⟩
  have hlt := (List.getElem?_eq_some_iff.1 ho).1
  have := h4 i (List.mem_range.2 hlt)
  rw [ho] at this
  simp only [Option.map_some, Option.getD_some, List.all_eq_true] at this
  exact fun hb => by have := this e he; rw [hb] at this; simpa using this

def Clo (l : List Oper) (L : Nat → Bool) : Prop := ∀ (j : Nat) p, l[j]? = some p → L j = true → ∀ e ∈ p.after.toList, Region.binds .any e = true → L e.on = true
/-- What an operation has to show. -/
def StepE (P : Program) (N : Nat) (ops : Array Oper) (l : List Oper) (xs : (Nat → Nat) → List AV) (Hs : (Nat → Bool) → (Nat → Nat) → Heap) (ρ0 : Env) (i : Nat) (o : Oper) : Prop :=
  ∀ (L : Nat → Bool) (σ : Nat → Nat), Clo l L → L i = false → (∀ e ∈ o.after.toList, Region.binds .any e = true → L e.on = true) →
    AO P N ops [o] (fun ρ' H' => ∃ σ', (∀ j, L j = true → (xs σ')[j]? = (xs σ)[j]?) ∧ (∀ d, o.dst = some d → ∃ x, (xs σ')[i]? = some x ∧ ρ'.lookup d = some x) ∧ Sub (Hs (addL L i) σ') H') (needEnv (l.zip (xs σ)) o ++ outer (l.zip (xs σ)) ρ0 i) (Hs L σ)
def StepsE (P : Program) (N : Nat) (ops : Array Oper) (l : List Oper) (xs : (Nat → Nat) → List AV) (Hs : (Nat → Bool) → (Nat → Nat) → Heap) (ρ0 : Env) : Nat → List Oper → Prop
  | _, [] => True
  | k, o :: r => StepE P N ops l xs Hs ρ0 k o ∧ StepsE P N ops l xs Hs ρ0 (k + 1) r
theorem StepsE.get {P : Program} {N : Nat} {ops : Array Oper} {l : List Oper} {xs : (Nat → Nat) → List AV} {Hs : (Nat → Bool) → (Nat → Nat) → Heap} {ρ0 : Env} : ∀ {r : List Oper} {k : Nat}, StepsE P N ops l xs Hs ρ0 k r → ∀ {i : Nat} {o}, r[i]? = some o → StepE P N ops l xs Hs ρ0 (k + i) o
  | [], _, _, i, p, h => by simp at h
  | q :: r, _, hh, 0, p, h => by simp at h; subst h; exact hh.1
  | q :: r, k, hh, i + 1, p, h => by simp at h; have := StepsE.get hh.2 h; rwa [show k + 1 + i = k + (i + 1) by omega] at this

structure EffInv (F : Fr) (g : G) (ρ0 : Env) (N : Nat) (ds : List Deferred) (l : List Oper) (xs : (Nat → Nat) → List AV) (Hs : (Nat → Bool) → (Nat → Nat) → Heap) (listed : Array Bool) (a : Act) (w : World) : Prop where
  inv : ∃ g' σ, g.le g' ∧ (∀ t x, ρ0.lookup t = some x → (∀ (j : Nat) p, l[j]? = some p → Lof listed j = true → p.dst ≠ some t) → V g' x (a.tmps.getD t undef)) ∧ (∀ (j : Nat) p d x, l[j]? = some p → Lof listed j = true → p.dst = some d → (xs σ)[j]? = some x → V g' x (a.tmps.getD d undef)) ∧ WSat F g' (Hs (Lof listed) σ) w
  size : a.tmps.size = N
  defers : a.defers = ds
  closed : Clo l (Lof listed)

section
variable {P : Program} {N : Nat} {F : Fr} {g : G} {ρ0 : Env} {ds : List Deferred} {l : List Oper} {xs : (Nat → Nat) → List AV} {Hs : (Nat → Bool) → (Nat → Nat) → Heap} {R : Exit → Act → World → Prop}
theorem eff_step (hlen : ∀ σ, (xs σ).length = l.length) (hB : EffOK l) (hS : StepsE P N l.toArray l xs Hs ρ0 0 l) {listed : Array Bool} (hsz : listed.size = l.length) {a : Act} {w : World} (inv : EffInv F g ρ0 N ds l xs Hs listed a w) {i : Nat} (hi : i ∈ Region.ready .any l.toArray listed) :
    wpOp P l.toArray R i (fun a' w' => EffInv F g ρ0 N ds l xs Hs (listed.setIfInBounds i true) a' w') a w := by
  obtain ⟨k1, k2, o, ho, k3'⟩ := ready_spec hi
  have hol : l[i]? = some o := by simpa using ho
  have hil : i < l.length := (List.getElem?_eq_some_iff.1 hol).1
  have hit : i < listed.size := by omega
  have k3 : ∀ e ∈ o.after.toList, Region.binds .any e = true → Lof listed e.on = true := fun e he hb => by
    have := k3' e he hb
    have hlt := hB.back i o hol e he hb
    unfold Lof
    rw [Array.getD_eq_getD_getElem?, Array.getElem?_eq_getElem (by omega)] at this ⊢
    exact this
  obtain ⟨g', σ, q1, q2, q3, q4⟩ := inv.inv
  have hao := (hS.get hol)
  rw [Nat.zero_add] at hao
  have hao := hao (Lof listed) σ inv.closed k2 k3
  have zg : ∀ (j : Nat) p, (l.zip (xs σ))[j]? = some p → l[j]? = some p.1 ∧ (xs σ)[j]? = some p.2 := fun j p h => List.getElem?_zip_eq_some.1 h
  have hes : ESat g' (needEnv (l.zip (xs σ)) o ++ outer (l.zip (xs σ)) ρ0 i) a := by
    intro t y hy
    rw [lookup_append'] at hy
    cases hn : (needEnv (l.zip (xs σ)) o).lookup t with
    | none =>
      rw [hn] at hy
      obtain ⟨u1, u2⟩ := lookup_filter (f := keeps (l.zip (xs σ)) i) (show (outer (l.zip (xs σ)) ρ0 i).lookup t = some y by simpa using hy)
      refine q2 t y u2 fun j p hp hl hdt => ?_
      have hj : j < l.length := (List.getElem?_eq_some_iff.1 hp).1
      have hz : (l.zip (xs σ))[j]? = some (p, (xs σ)[j]'(by rw [hlen]; exact hj)) := by
        rw [List.getElem?_zip_eq_some]; exact ⟨hp, List.getElem?_eq_getElem (by rw [hlen]; exact hj)⟩
      have := List.all_eq_true.1 u1 _ (List.mem_of_getElem? hz)
      simp only [Bool.or_eq_true, bne_iff_ne, ne_eq, hdt, not_true, false_or, List.any_eq_true, Bool.and_eq_true, beq_iff_eq] at this
      obtain ⟨e, he, hb, hon⟩ := this
      have hc := inv.closed j p hp hl e he hb
      rw [hon] at hc
      have k2' : Lof listed i = false := k2
      rw [k2'] at hc; cases hc
    | some z =>
      rw [hn] at hy; cases hy
      have hm := lookup_mem hn
      simp only [needEnv, List.mem_filterMap] at hm
      obtain ⟨e, he, hf⟩ := hm
      by_cases hb : Region.binds .any e = true
      · rw [if_pos hb] at hf
        cases hp : (l.zip (xs σ))[e.on]? with
        | none => rw [hp] at hf; cases hf
        | some p =>
          rw [hp] at hf
          simp only [Option.bind_some, Option.map_eq_some_iff] at hf
          obtain ⟨d', hd', he'⟩ := hf
          cases he'
          obtain ⟨z1, z2⟩ := zg _ _ hp
          exact q3 e.on p.1 _ _ z1 (k3 e he hb) hd' z2
      · rw [if_neg hb] at hf; cases hf
  let KK : Env → Heap → Prop := fun ρ' H' => ∃ σ', (∀ j, Lof listed j = true → (xs σ')[j]? = (xs σ)[j]?) ∧ (∀ d, o.dst = some d → ∃ x, (xs σ')[i]? = some x ∧ ρ'.lookup d = some x) ∧ Sub (Hs (addL (Lof listed) i) σ') H'
  have wl := hao F g' a w (fun e a' w' => match e with
    | .normal => ∃ g'' ρ' H', g'.le g'' ∧ ESat g'' ρ' a' ∧ a'.tmps.size = N ∧ a'.defers = a.defers ∧ WSat F g'' H' w' ∧ KK ρ' H'
    | e => R e a' w') hes inv.size q4 (fun g'' ρ' H' a' w' j1 j2 j3 j4 j5 j6 => ⟨g'', ρ', H', j1, j2, j3, j4, j5, j6⟩)
  have fin : ∀ a' w', (∃ g'' ρ' H', g'.le g'' ∧ ESat g'' ρ' a' ∧ a'.tmps.size = N ∧ a'.defers = a.defers ∧ WSat F g'' H' w' ∧ KK ρ' H') → (∃ v, a'.tmps = (a.put o.dst v).tmps) →
      EffInv F g ρ0 N ds l xs Hs (listed.setIfInBounds i true) a' w' := by
    rintro a' w' ⟨g'', ρ', H', j1, j2, j3, j4, j5, σ', s1, s2, s3⟩ ⟨v, hv⟩
    have old : ∀ t, o.dst ≠ some t → a'.tmps.getD t undef = a.tmps.getD t undef := fun t ht => by
      rw [hv]
      cases hd : o.dst with
      | none => rfl
      | some d => exact getD_put (fun e => ht (by rw [hd, e]))
    have hL := Lof_set hit
    have stays : ∀ j, Lof listed j = true → Lof (listed.setIfInBounds i true) j = true := fun j hj => by
      rw [hL]; unfold addL; split
      · rfl
      · exact hj
    have back : ∀ j, Lof (listed.setIfInBounds i true) j = true → j = i ∨ Lof listed j = true := fun j hj => by
      rw [hL] at hj; unfold addL at hj
      by_cases e : j = i
      · exact .inl e
      · rw [if_neg e] at hj; exact .inr hj
    have now : Lof (listed.setIfInBounds i true) i = true := by rw [hL]; unfold addL; rw [if_pos rfl]
    refine ⟨⟨g'', σ', q1.trans j1, ?_, ?_, by rw [hL]; exact j5.sub s3⟩, j3, j4.trans inv.defers, fun j p hp hl e he hb => ?_⟩
    · intro t y hy hfree
      have ht : o.dst ≠ some t := hfree i o hol now
      rw [old t ht]; exact (q2 t y hy fun j p hp hl => hfree j p hp (stays j hl)).mono j1
    · intro j p e x hp hl he hx
      by_cases hji : j = i
      · subst hji
        have hpo : p = o := Option.some.inj (hp.symm.trans hol)
        subst hpo
        obtain ⟨x', hx', hlk⟩ := s2 e he
        have : x' = x := Option.some.inj (hx'.symm.trans hx)
        subst this
        exact j2 e x' hlk
      · have hlj := (back j hl).resolve_left hji
        have hne : o.dst ≠ some e := fun h => hji (hB.nodup j i p o e hp hol he h)
        rw [old e hne]
        exact (q3 j p e x hp hlj he ((s1 j hlj).symm.trans hx)).mono j1
    · rcases back j hl with h' | h'
      · subst h'
        have hpo : p = o := Option.some.inj (hp.symm.trans hol)
        subst hpo
        exact stays _ (k3 e he hb)
      · exact stays _ (inv.closed j p hp h' e he hb)
  unfold wpOp
  rw [ho]
  simp only [wpList] at wl
  show (if Region.wanted o (yielded l.toArray a.tmps) = true then _ else _)
  by_cases hw : Region.wanted o (yielded l.toArray a.tmps) = true
  · rw [if_pos hw] at wl ⊢
    refine wp_conv (Q := fun e a' w' => match e with
      | .normal => ∃ g'' ρ' H', g'.le g'' ∧ ESat g'' ρ' a' ∧ a'.tmps.size = N ∧ a'.defers = a.defers ∧ WSat F g'' H' w' ∧ KK ρ' H'
      | e => R e a' w') (fun e a w he h => by cases e <;> first | exact absurd rfl he | exact h) (fun a' w' h => fin a' w' h.1 h.2) (wl.imp wp_put id)
  · rw [if_neg hw] at wl ⊢
    refine fin _ _ wl ⟨undef, ?_⟩
    cases o.dst <;> rfl
theorem eff_listed {listed : Array Bool} (hB : EffOK l) (hsz : listed.size = l.length) (h : Region.ready .any l.toArray listed = []) : Lof listed = fun _ => true := by
  have key : ∀ i, i < l.length → listed.getD i true = true := by
    intro i
    induction i using Nat.strongRecOn with
    | _ i ih =>
      intro hi
      cases hc : listed.getD i true with
      | true => rfl
      | false =>
        exfalso
        have hr : i ∈ Region.ready .any l.toArray listed := ready_of (o := l[i]) (by simp [hi]) hc (fun e he hbd => by
          have hlt := hB.back i l[i] (by simp [hi]) e he hbd
          have := ih e.on hlt (by omega)
          rw [Array.getD_eq_getD_getElem?, Array.getElem?_eq_getElem (by omega)] at this ⊢
          exact this)
        rw [h] at hr; cases hr
  funext j
  by_cases hj : j < l.length
  · exact key j hj
  · unfold Lof
    rw [Array.getD_eq_getD_getElem?, Array.getElem?_eq_none (by omega)]; rfl
theorem eff_main (hlen : ∀ σ, (xs σ).length = l.length) (hB : EffOK l) (hS : StepsE P N l.toArray l xs Hs ρ0 0 l)
    (hk : ∀ listed a' w', Lof listed = (fun _ => true) → EffInv F g ρ0 N ds l xs Hs listed a' w' → R .normal a' w') : ∀ (fuel : Nat) (listed : Array Bool) (a : Act) (w : World), listed.size = l.length → listed.toList.count false ≤ fuel → EffInv F g ρ0 N ds l xs Hs listed a w →
    wpAny P .any l.toArray R fuel listed a w := by
  intro fuel
  induction fuel with
  | zero =>
    intro listed a w hsz hc inv
    have hr : Region.ready .any l.toArray listed = [] := by
      cases e : Region.ready .any l.toArray listed with
      | nil => rfl
      | cons i r =>
        exfalso
        obtain ⟨k1, k2, _⟩ := ready_spec (i := i) (by rw [e]; simp)
        have hi : i < listed.size := by simpa [hsz] using k1
        rw [Array.getD_eq_getD_getElem?, Array.getElem?_eq_getElem hi] at k2
        have : false ∈ listed.toList := by rw [← show listed[i] = false from k2]; simp
        have := List.count_pos_iff.2 this
        omega
    exact ⟨hr, hk listed a w (eff_listed hB hsz hr) inv⟩
  | succ fuel ih =>
    intro listed a w hsz hc inv
    refine ⟨fun hr => hk listed a w (eff_listed hB hsz hr) inv, fun i hi => wpOp_mono (fun a' w' h => ih _ a' w' (by simpa using hsz) ?_ h) (eff_step hlen hB hS hsz inv hi)⟩
    obtain ⟨k1, k2, _⟩ := ready_spec hi
    have hi' : i < listed.size := by simpa [hsz] using k1
    rw [Array.getD_eq_getD_getElem?, Array.getElem?_eq_getElem hi'] at k2
    have hf : listed.toList[i]'(by simpa using hi') = false := by simpa using k2
    have e2 : (listed.toList.set i true).count false = listed.toList.count false - 1 + 0 := by
      rw [List.count_set (by simpa using hi'), hf]; rfl
    have : false ∈ listed.toList := by rw [← hf]; exact List.getElem_mem _
    have := List.count_pos_iff.2 this
    rw [Array.toList_setIfInBounds, e2]
    omega
end

theorem unnil {P : Program} {ops : Array Oper} {R : Exit → Act → World → Prop} {a : Act} {w : World} (h : wpList P ops R [] a w) : R .normal a w := by simpa [wpList] using h
theorem AO.heq {P : Program} {N : Nat} {ops : Array Oper} {rest : List Oper} {K : Env → Heap → Prop} {ρ : Env} {H : Heap} (H' : Heap) (e : H = H') (h : AO P N ops rest K ρ H') : AO P N ops rest K ρ H := by rw [e]; exact h
theorem Sub.of_eq {A B C : Heap} (e : A = B) (h : Sub B C) : Sub A C := by rw [e]; exact h
theorem AW.regEff {P : Program} {N : Nat} {ρ : Env} {H : Heap} {Q : Exit → Env → Heap → Prop} {id : Nat} {l : List Oper} (hm : P.follows .mixedOrders = true) (hB : effB l = true) (xs : (Nat → Nat) → List AV) (Hs : (Nat → Bool) → (Nat → Nat) → Heap) (ρ0 : Env) (hs : ESub ρ0 ρ) (hlen : ∀ σ, (xs σ).length = l.length)
    (h0 : ∀ σ, Sub (Hs (fun j => !decide (j < l.length)) σ) H) (h : StepsE P N l.toArray l xs Hs ρ0 0 l) (ρ' : (Nat → Nat) → Env) (H' : (Nat → Nat) → Heap) (he : ∀ σ, ESub (ρ' σ) (ends (l.zip (xs σ)) ++ ρ0)) (hH : ∀ σ, Sub (H' σ) (Hs (fun _ => true) σ)) (hk : ∀ σ, AO P N #[] [] (Q .normal) (ρ' σ) (H' σ)) : AW P N (.region id l.toArray true) Q ρ H := by
  intro F g a w R h1 h2 h3 h4
  refine wp_region_any hm ?_
  have hB' := effB_ok hB
  have h3' : WSat F g H { w with drawn := w.drawn + 1 } := h3.of_below (Below.refl _ _).drew
  have e0 : Lof (Array.replicate l.length false) = fun j => !decide (j < l.length) := by
    funext j
    unfold Lof
    rw [Array.getD_eq_getD_getElem?]
    by_cases hj : j < l.length
    · simp [hj]
    · simp [hj]
  have no : ∀ (j : Nat) p, l[j]? = some p → Lof (Array.replicate l.length false) j = true → False := fun j p hp hl => by
    rw [e0] at hl
    have := (List.getElem?_eq_some_iff.1 hp).1
    simp [this] at hl
  refine eff_main (F := F) (g := g) (ds := a.defers) hlen hB' h (fun listed a' w' hall inv => ?_) _ _ a _ (by simp) (by simp) ⟨⟨g, fun _ => 0, .refl g, fun t x hx _ => hs.sat h1 t x hx, fun j p d x hp hl _ _ => (no j p hp hl).elim, by rw [show (Array.replicate l.toArray.size false) = Array.replicate l.length false from rfl, e0]; exact h3'.sub (h0 _)⟩, h2, rfl, fun j p hp hl => (no j p hp hl).elim⟩
  obtain ⟨g', σ, q1, q2, q3, q4⟩ := inv.inv
  rw [hall] at q2 q3 q4
  refine unnil (hk σ F g' a' w' R ((he σ).sat ?_) inv.size (q4.sub (hH σ)) fun g2 ρ2 H2 a2 w2 j1 j2 j3 j4 j5 j6 => h4 _ g2 ρ2 H2 a2 w2 (q1.trans j1) j2 j3 (j4.trans inv.defers) j5 j6)
  intro t y hy
  rw [lookup_append'] at hy
  have zg : ∀ (j : Nat) p, (l.zip (xs σ))[j]? = some p → l[j]? = some p.1 ∧ (xs σ)[j]? = some p.2 := fun j p h => List.getElem?_zip_eq_some.1 h
  cases hn : (ends (l.zip (xs σ))).lookup t with
  | none =>
    rw [hn] at hy
    refine q2 t y (by simpa using hy) fun j p hp _ hd => ?_
    have hj : j < l.length := (List.getElem?_eq_some_iff.1 hp).1
    have hz : (l.zip (xs σ))[j]? = some (p, (xs σ)[j]'(by rw [hlen]; exact hj)) := by
      rw [List.getElem?_zip_eq_some]; exact ⟨hp, List.getElem?_eq_getElem (by rw [hlen]; exact hj)⟩
    have : (t, (xs σ)[j]'(by rw [hlen]; exact hj)) ∈ ends (l.zip (xs σ)) := by
      simp only [ends, List.mem_filterMap, Option.map_eq_some_iff]
      exact ⟨_, List.mem_of_getElem? hz, t, hd, rfl⟩
    exact lookup_none_mem hn this
  | some z =>
    rw [hn] at hy; cases hy
    obtain ⟨j, p, hp, hd, rfl⟩ := ends_get hn
    obtain ⟨z1, z2⟩ := zg _ _ hp
    exact q3 j p.1 t p.2 z1 rfl hd z2
/-- An operation that leaves our objects as they are. -/
theorem StepE.calm {P : Program} {N : Nat} {ops : Array Oper} {l : List Oper} {xs : (Nat → Nat) → List AV} {Hs : (Nat → Bool) → (Nat → Nat) → Heap} {ρ0 : Env} {i : Nat} {o : Oper} (hH : ∀ L σ, Hs (addL L i) σ = Hs L σ)
    (h : ∀ (L : Nat → Bool) (σ : Nat → Nat), Clo l L → L i = false → (∀ e ∈ o.after.toList, Region.binds .any e = true → L e.on = true) →
      AO P N ops [o] (fun ρ' H' => (∃ d x, o.dst = some d ∧ (xs σ)[i]? = some x ∧ ρ'.lookup d = some x) ∧ Sub (Hs L σ) H') (needEnv (l.zip (xs σ)) o ++ outer (l.zip (xs σ)) ρ0 i) (Hs L σ)) : StepE P N ops l xs Hs ρ0 i o :=
  fun L σ k1 k2 k3 => AO.mono (h L σ k1 k2 k3) fun ρ' H' hk => by
    obtain ⟨⟨d, x, e1, e2, e3⟩, e4⟩ := hk
    exact ⟨σ, fun _ _ => rfl, fun d' hd' => ⟨x, e2, by rw [← Option.some.inj (e1.symm.trans hd')]; exact e3⟩, by rw [hH]; exact e4⟩
def onB (p : Oper) (i : Nat) : Bool := p.after.toList.any fun e => Region.binds .any e && e.on == i
/-- Who is listed, those are that it needs. -/
theorem Clo.pos {l : List Oper} {L : Nat → Bool} (h : Clo l L) {i j : Nat} {p : Oper} (hp : l[j]? = some p) (hb : onB p i = true) (hj : L j = true) : L i = true := by
  simp only [onB, List.any_eq_true, Bool.and_eq_true, beq_iff_eq] at hb
  obtain ⟨e, he, h1, h2⟩ := hb
  rw [← h2]; exact h j p hp hj e he h1
theorem Clo.neg {l : List Oper} {L : Nat → Bool} (h : Clo l L) {i j : Nat} {p : Oper} (hp : l[j]? = some p) (hb : onB p i = true) (hi : L i = false) : L j = false := by
  cases q : L j with
  | false => rfl
  | true => rw [h.pos hp hb q] at hi; cases hi
theorem on_get {p : Oper} {L : Nat → Bool} (h : ∀ e ∈ p.after.toList, Region.binds .any e = true → L e.on = true) {i : Nat} (hb : onB p i = true) : L i = true := by
  simp only [onB, List.any_eq_true, Bool.and_eq_true, beq_iff_eq] at hb
  obtain ⟨e, he, h1, h2⟩ := hb
  rw [← h2]; exact h e he h1
end Go.Avl
/- Guarded operations without their guards; pointers compared with nil. -/
namespace Go.Avl
open Go Go.RowKit
set_option linter.all false
section
variable {P : Program} {N : Nat} {ops : Array Oper} {o : Oper} {rest : List Oper} {K : Env → Heap → Prop} {ρ : Env} {H : Heap}
theorem AO.unguard (j : Nat) (b : Bool) (e : Nat) (hg : o.guard = some (j, b)) (he : (ops[j]?).bind (·.dst) = some e) (hb : ρ.lookup e = some (.fl (.bool b)))
    (h : AO P N ops ({ o with guard := none } :: rest) K ρ H) : AO P N ops (o :: rest) K ρ H := by
  intro F g a w Q h1 h2 h3 h4
  have := h F g a w Q h1 h2 h3 h4
  unfold wpList at this ⊢
  rw [if_pos (wanted_none (o := { o with guard := none }) rfl _)] at this
  rw [if_pos (by rw [wanted_some hg he hb h1]; simp)]
  exact this
end
end Go.Avl
namespace Go.Avl
end Go.Avl
namespace Go.Avl
open Go Go.RowKit
end Go.Avl
/- Parts of our own rows, rows cut and grown again, copies, labels. -/
namespace Go.Avl
open Go Go.RowKit
set_option linter.unusedVariables false
set_option linter.unusedSimpArgs false
section
variable {P : Program} {N : Nat} {Q : Exit → Env → Heap → Prop} {ρ ρ' : Env} {H H' : Heap}
end
section
variable {P : Program} {N : Nat} {ops : Array Oper} {o : Oper} {rest : List Oper} {K : Env → Heap → Prop} {ρ : Env} {H : Heap}
theorem vec_size {α : Type} {n z : Nat} (f : α → AV) (v : Vector α n) : (AV.ar z (v.toList.map f)).size = n * z := by simp [AV.size]
end
end Go.Avl
/- The rules under short names, with what follows by computing left out. -/
namespace Go.Avl
open Go Go.RowKit
set_option linter.unusedVariables false
inductive Keep : List Nat → Env → Env → Prop
  | nil {ρ : Env} : Keep [] ρ []
  | cons {t : Nat} {ts : List Nat} {ρ ρ' : Env} {x : AV} : ρ.lookup t = some x → Keep ts ρ ρ' → Keep (t :: ts) ρ ((t, x) :: ρ')
theorem Keep.sub {ts : List Nat} {ρ ρ' : Env} (h : Keep ts ρ ρ') : ESub ρ' ρ := by
  induction h with
  | nil => trivial
  | cons h _ ih => exact ⟨h, ih⟩
theorem bD {a b : Bool} (h : a = b) : some (AV.fl (Value.bool a)) = some (AV.fl (Value.bool b)) := congrArg (fun b => some (AV.fl (Value.bool b))) h
theorem of_ite {p : Prop} [Decidable p] {α : Type} {a b r : α} (h : (if p then a else b) = r) : (p ∧ a = r) ∨ (¬p ∧ b = r) := by
  by_cases q : p
  · exact .inl ⟨q, by rwa [if_pos q] at h⟩
  · exact .inr ⟨q, by rwa [if_neg q] at h⟩
section
variable {P : Program} {N : Nat} {ops : Array Oper} {o : Oper} {rest : List Oper} {K : Env → Heap → Prop} {ρ ρ' : Env} {H H' : Heap} {x : AV}
theorem AO.c {d : Nat} (hc : Calm P o ρ H x) (h : AO P N ops rest K ((d, x) :: ρ) H) (hg : o.guard = none := by rfl) (hd : o.dst = some d := by rfl) (hN : d < N := by decide) : AO P N ops (o :: rest) K ρ H := AO.calm hg d hd hN x hc h
theorem AO.cG {d j e : Nat} {b : Bool} (hg : o.guard = some (j, b)) (he : (ops[j]?).bind (·.dst) = some e) (hb : ρ.lookup e = some (.fl (.bool b))) (hc : Calm P o ρ H x) (h : AO P N ops rest K ((d, x) :: ρ) H) (hd : o.dst = some d := by rfl) (hN : d < N := by decide) : AO P N ops (o :: rest) K ρ H := AO.calmG j b e hg he hb d hd hN x hc h
theorem AO.sT {d j e : Nat} (hg : o.guard = some (j, true)) (he : (ops[j]?).bind (·.dst) = some e) (hb : ρ.lookup e = some (.fl (.bool false))) (h : AO P N ops rest K ((d, .fl undef) :: ρ) H) (hd : o.dst = some d := by rfl) (hN : d < N := by decide) : AO P N ops (o :: rest) K ρ H := AO.skipG j false e hg he hb d hd hN h
theorem AO.sF {d j e : Nat} (hg : o.guard = some (j, false)) (he : (ops[j]?).bind (·.dst) = some e) (hb : ρ.lookup e = some (.fl (.bool true))) (h : AO P N ops rest K ((d, .fl undef) :: ρ) H) (hd : o.dst = some d := by rfl) (hN : d < N := by decide) : AO P N ops (o :: rest) K ρ H := AO.skipG j true e hg he hb d hd hN h
theorem AO.sU {d j e : Nat} {b : Bool} (hg : o.guard = some (j, b)) (he : (ops[j]?).bind (·.dst) = some e) (hb : ρ.lookup e = some (.fl undef)) (h : AO P N ops rest K ((d, .fl undef) :: ρ) H) (hd : o.dst = some d := by rfl) (hN : d < N := by decide) : AO P N ops (o :: rest) K ρ H := AO.skipU j b e hg he hb d hd hN h
theorem AO.nK (ks : List Nat) (hk : K ρ' H) (hs : Keep ks ρ ρ' := by repeat' (first | exact Keep.nil | apply Keep.cons rfl)) : AO P N ops [] K ρ H := AO.nil hs.sub (Sub.refl _) hk
theorem AO.nH (ks : List Nat) (hH : Sub H' H) (hk : K ρ' H') (hs : Keep ks ρ ρ' := by repeat' (first | exact Keep.nil | apply Keep.cons rfl)) : AO P N ops [] K ρ H := AO.nil hs.sub hH hk
theorem AO.wK (ks : List Nat) (h : AO P N ops rest K ρ' H) (hs : Keep ks ρ ρ' := by repeat' (first | exact Keep.nil | apply Keep.cons rfl)) : AO P N ops rest K ρ H := AO.weak hs.sub (Sub.refl _) h
theorem AO.wH (ks : List Nat) (hH : Sub H' H) (h : AO P N ops rest K ρ' H') (hs : Keep ks ρ ρ' := by repeat' (first | exact Keep.nil | apply Keep.cons rfl)) : AO P N ops rest K ρ H := AO.weak hs.sub hH h
theorem AO.nE {d : Nat} (hl : ρ.lookup d = some x) (hk : K [(d, x)] H) : AO P N ops [] K ρ H := AO.nil (ρ' := [(d, x)]) ⟨hl, trivial⟩ (Sub.refl _) hk
end
section
variable {P : Program} {N : Nat} {ops : Array Oper} {o : Oper} {rest : List Oper} {K : Env → Prop} {ρ ρ' : Env} {H H' : Heap} {x : AV}
theorem AQ.c {d : Nat} (hc : Calm P o ρ H x) (h : AQ P N ops rest K ((d, x) :: ρ) H) (hg : o.guard = none := by rfl) (hd : o.dst = some d := by rfl) (hN : d < N := by decide) : AQ P N ops (o :: rest) K ρ H := AQ.calm hg d hd hN x hc h
theorem AQ.cG {d j e : Nat} {b : Bool} (hg : o.guard = some (j, b)) (he : (ops[j]?).bind (·.dst) = some e) (hb : ρ.lookup e = some (.fl (.bool b))) (hc : Calm P o ρ H x) (h : AQ P N ops rest K ((d, x) :: ρ) H) (hd : o.dst = some d := by rfl) (hN : d < N := by decide) : AQ P N ops (o :: rest) K ρ H := AQ.calmG j b e hg he hb d hd hN x hc h
theorem AQ.sT {d j e : Nat} (hg : o.guard = some (j, true)) (he : (ops[j]?).bind (·.dst) = some e) (hb : ρ.lookup e = some (.fl (.bool false))) (h : AQ P N ops rest K ((d, .fl undef) :: ρ) H) (hd : o.dst = some d := by rfl) (hN : d < N := by decide) : AQ P N ops (o :: rest) K ρ H := AQ.skipG j false e hg he hb d hd hN h
theorem AQ.sF {d j e : Nat} (hg : o.guard = some (j, false)) (he : (ops[j]?).bind (·.dst) = some e) (hb : ρ.lookup e = some (.fl (.bool true))) (h : AQ P N ops rest K ((d, .fl undef) :: ρ) H) (hd : o.dst = some d := by rfl) (hN : d < N := by decide) : AQ P N ops (o :: rest) K ρ H := AQ.skipG j true e hg he hb d hd hN h
theorem AQ.sU {d j e : Nat} {b : Bool} (hg : o.guard = some (j, b)) (he : (ops[j]?).bind (·.dst) = some e) (hb : ρ.lookup e = some (.fl undef)) (h : AQ P N ops rest K ((d, .fl undef) :: ρ) H) (hd : o.dst = some d := by rfl) (hN : d < N := by decide) : AQ P N ops (o :: rest) K ρ H := AQ.skipU j b e hg he hb d hd hN h
theorem AQ.nK (ks : List Nat) (hk : K ρ') (hs : Keep ks ρ ρ' := by repeat' (first | exact Keep.nil | apply Keep.cons rfl)) : AQ P N ops [] K ρ H := AQ.nil hs.sub hk
end
section
variable {P : Program} {N : Nat} {Q : Exit → Env → Heap → Prop} {ρ ρ' : Env} {H H' : Heap} {c c' : Code}
theorem AW.wK (ks : List Nat) (h : AW P N c Q ρ' H) (hs : Keep ks ρ ρ' := by repeat' (first | exact Keep.nil | apply Keep.cons rfl)) : AW P N c Q ρ H := AW.weak hs.sub (Sub.refl _) h
theorem AW.wH (ks : List Nat) (hH : Sub H' H) (h : AW P N c Q ρ' H') (hs : Keep ks ρ ρ' := by repeat' (first | exact Keep.nil | apply Keep.cons rfl)) : AW P N c Q ρ H := AW.weak hs.sub hH h
theorem AW.sK (ks : List Nat) (h : Q .normal ρ' H) (hs : Keep ks ρ ρ' := by repeat' (first | exact Keep.nil | apply Keep.cons rfl)) : AW P N .skip Q ρ H := AW.skip hs.sub (Sub.refl _) h
theorem AW.sH (ks : List Nat) (hH : Sub H' H) (h : Q .normal ρ' H') (hs : Keep ks ρ ρ' := by repeat' (first | exact Keep.nil | apply Keep.cons rfl)) : AW P N .skip Q ρ H := AW.skip hs.sub hH h
theorem AW.eK {id : Nat} (ks : List Nat) (h : Q (.exit id) ρ' H) (hs : Keep ks ρ ρ' := by repeat' (first | exact Keep.nil | apply Keep.cons rfl)) : AW P N (.exit id) Q ρ H := AW.exit hs.sub (Sub.refl _) h
theorem AW.eH {id : Nat} (ks : List Nat) (hH : Sub H' H) (h : Q (.exit id) ρ' H') (hs : Keep ks ρ ρ' := by repeat' (first | exact Keep.nil | apply Keep.cons rfl)) : AW P N (.exit id) Q ρ H := AW.exit hs.sub hH h
theorem AW.rK (ks : List Nat) (h : Q .ret ρ' H) (hs : Keep ks ρ ρ' := by repeat' (first | exact Keep.nil | apply Keep.cons rfl)) : AW P N .ret Q ρ H := AW.ret hs.sub (Sub.refl _) h
theorem AW.rH (ks : List Nat) (hH : Sub H' H) (h : Q .ret ρ' H') (hs : Keep ks ρ ρ' := by repeat' (first | exact Keep.nil | apply Keep.cons rfl)) : AW P N .ret Q ρ H := AW.ret hs.sub hH h
theorem AW.sr {id : Nat} {l : List Oper} {rest : Code} (h : AO P N l.toArray l (Then (AW P N rest Q) Q .normal) ρ H) : AW P N (.seq (.region id l.toArray false) rest) Q ρ H := AW.seq (AW.reg h)
end
end Go.Avl
/- Calls with a nil constant as an argument. -/
namespace Go.Avl
open Go Go.RowKit
set_option linter.unusedVariables false

def evsC (ρ : Env) : List Operand → List AV → Prop
  | [], [] => True
  | y :: ys, x :: xs => (∃ x0, Env.ev ρ y = some x0 ∧ Coe x0 x ∧ x.notTup = true) ∧ evsC ρ ys xs
  | _, _ => False
theorem evsC.all {g : G} {ρ : Env} {a : Act} (s : ESat g ρ a) : ∀ {ys : List Operand} {xs : List AV}, evsC ρ ys xs → All2 (V1 g) xs (ys.map a.eval)
  | [], [], _ => .nil
  | y :: ys, x :: xs, h => by
    obtain ⟨⟨x0, h1, h2, h3⟩, h4⟩ := h
    exact .cons ((h2.v (s.ev h1)).toV1 h3) (evsC.all s h4)
  | [], _ :: _, h => h.elim
  | _ :: _, [], h => h.elim
section
variable {P : Program} {N : Nat} {ops : Array Oper} {o : Oper} {rest : List Oper} {K : Env → Heap → Prop} {ρ : Env} {H : Heap}
end
end Go.Avl
