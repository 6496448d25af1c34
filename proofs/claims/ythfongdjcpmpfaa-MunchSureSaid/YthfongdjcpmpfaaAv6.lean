/- Calls, a function's entry and end; new objects, stores, literals, freezing. -/
import Derived.Test.YthfongdjcpmpfaaAv5
namespace Go.Avl
open Go Go.RowKit
set_option linter.unusedVariables false

def AV.notTup : AV → Bool
  | .tup _ => false
  | _ => true
theorem V.toV1 {g : G} {x : AV} {v : Value} (h : V g x v) (hn : x.notTup = true) : V1 g x v := by cases x <;> first | exact h | cases hn

/-- The operands' values. -/
def evs (ρ : Env) : List Operand → List AV → Prop
  | [], [] => True
  | y :: ys, x :: xs => Env.ev ρ y = some x ∧ x.notTup = true ∧ evs ρ ys xs
  | _, _ => False
theorem evs.all {g : G} {ρ : Env} {a : Act} (s : ESat g ρ a) : ∀ {ys : List Operand} {xs : List AV}, evs ρ ys xs → All2 (V1 g) xs (ys.map a.eval)
  | [], [], _ => .nil
  | y :: ys, x :: xs, h => .cons ((s.ev h.1).toV1 h.2.1) (evs.all s h.2.2)
  | [], _ :: _, h => h.elim
  | _ :: _, [], h => h.elim

def FnOK (P : Program) (f : FuncId) : Prop := ∃ fn, P.funcs[f]? = some fn ∧ fn.body.isSome = true ∧ (fn.name == "runtime.NumGoroutine") = false

section
variable {P : Program} {N : Nat} {ops : Array Oper} {o : Oper} {rest : List Oper} {K : Env → Heap → Prop} {KQ : Env → Prop} {ρ : Env} {H : Heap} {x : AV}

theorem run_call {a : Act} {w : World} {fo : Operand} {as : List Operand} {A : Array TypeId} {f : FuncId} (ho : o.op = .call { callee := .value fo, args := as.toArray, argTypes := A }) (hf : a.eval fo = .func (.func f) #[] #[]) (hok : FnOK P f) :
    (execOp a.eval o).run P w = .ok (.enter f (as.map a.eval).toArray) w := by
  obtain ⟨fn, h1, h2, h3⟩ := hok
  have hb : fn.body ≠ none := by intro h; rw [h] at h2; cases h2
  have h3' : fn.name ≠ "runtime.NumGoroutine" := by simpa using h3
  simp [execOp, ho, resolve, hf, Deferred.ofValue, invoke, callFunc, h1, h3', hb]

/-- A call whose answer is one flat value: it leaves all as it was. -/
theorem Calm.call {fo : Operand} {as : List Operand} {A : Array TypeId} {f : FuncId} {args : List AV} {v : Value} (ho : o.op = .call { callee := .value fo, args := as.toArray, argTypes := A }) (hf : Env.ev ρ fo = some (.fl (.func (.func f) #[] #[])))
    (hok : FnOK P f) (ha : evs ρ as args) (hx : x.det = some v) (h : Spec P f args x) : Calm P o ρ H x := by
  intro F g a w s h3
  have hfo : a.eval fo = .func (.func f) #[] #[] := s.ev hf
  have hv : ∀ (w' : World), rdOK g w' → Calls P f (as.map a.eval).toArray w' fun e w2 => e = .returned v ∧ Below w'.heap.size w' w2 := fun w' hw => (h g _ w' (ha.all s) hw).mono fun e w2 ⟨u, g', he, hg, hu, _, _, hb⟩ => ⟨by rw [he, AV.det_eq hx hu], hb⟩
  have hV : V g x v := by
    cases x with
    | fl u => cases hx; rfl
    | tup vs =>
      simp only [AV.det, Option.map_eq_some_iff] at hx
      obtain ⟨m, hm, rfl⟩ := hx
      refine ⟨m, rfl, ?_⟩
      clear h hv
      induction vs generalizing m with
      | nil => cases hm; exact .nil
      | cons y ys ih =>
        cases y with
        | fl u =>
          simp only [AV.flats, Option.map_eq_some_iff] at hm
          obtain ⟨m', hm', rfl⟩ := hm
          exact .cons rfl (ih m' hm')
        | _ => cases hm
    | _ => cases hx
  refine ⟨v, hV, fun w' hw => ?_⟩
  unfold Oper.quietAt
  rw [run_call ho hfo hok]
  exact ⟨rfl, (hv w' (ro_below h3.ro hw)).mono fun e w2 ⟨h1, h2⟩ => ⟨h1, hw.trans (h2.mono hw.size)⟩⟩

/-- One operation that may turn our objects. -/
theorem AO.step_w (hw : ∀ g a, ESat g ρ a → Region.wanted o (yielded ops a.tmps) = true) (d : Nat) (hd : o.dst = some d) (hN : d < N)
    (h : ∀ F g a w, ESat g ρ a → WSat F g H w → ∃ v g' w' x' H', (execOp a.eval o).run P w = .ok (.value v) w' ∧ g.le g' ∧ V g' x' v ∧ WSat F g' H' w' ∧ AO P N ops rest K ((d, x') :: ρ) H') : AO P N ops (o :: rest) K ρ H := by
  intro F g a w Q h1 h2 h3 h4
  unfold wpList
  rw [if_pos (hw g a h1)]
  left
  obtain ⟨v, g', w', x', H', hr, hg, hv, hs, hK⟩ := h F g a w h1 h3
  unfold Oper.wp
  rw [hr]
  refine hK F g' _ w' Q (by rw [hd]; exact (h1.mono hg).put hv (by omega)) (by rw [put_size]; exact h2) hs ?_
  intro g2 ρ' H2 a' w2 k1 k2 k3 k4 k5 k6
  exact h4 g2 ρ' H2 a' w2 (hg.trans k1) k2 k3 (by rw [k4, put_defers]) k5 k6

theorem AO.step (hg : o.guard = none) (d : Nat) (hd : o.dst = some d) (hN : d < N)
    (h : ∀ F g a w, ESat g ρ a → WSat F g H w → ∃ v g' w' x' H', (execOp a.eval o).run P w = .ok (.value v) w' ∧ g.le g' ∧ V g' x' v ∧ WSat F g' H' w' ∧ AO P N ops rest K ((d, x') :: ρ) H') : AO P N ops (o :: rest) K ρ H :=
  AO.step_w (fun _ _ _ => wanted_none hg _) d hd hN h

theorem AO.step0 (hg : o.guard = none) (hd : o.dst = none)
    (h : ∀ F g a w, ESat g ρ a → WSat F g H w → ∃ g' w' H', (execOp a.eval o).run P w = .ok .skip w' ∧ g.le g' ∧ WSat F g' H' w' ∧ AO P N ops rest K ρ H') : AO P N ops (o :: rest) K ρ H := by
  intro F g a w Q h1 h2 h3 h4
  unfold wpList
  rw [if_pos (wanted_none hg _)]
  left
  obtain ⟨g', w', H', hr, hg, hs, hK⟩ := h F g a w h1 h3
  unfold Oper.wp
  rw [hr]
  show wpList P ops Q rest (a.put o.dst undef) w'
  rw [hd]
  exact hK F g' a w' Q (h1.mono hg) h2 hs fun g2 ρ' H2 a' w2 k1 k2 k3 k4 k5 k6 => h4 g2 ρ' H2 a' w2 (hg.trans k1) k2 k3 k4 k5 k6

/-- A pure call. -/
theorem AO.call_w (hw : ∀ g a, ESat g ρ a → Region.wanted o (yielded ops a.tmps) = true) {fo : Operand} {as : List Operand} {A : Array TypeId} {f : FuncId} (args : List AV) (r : AV) (ho : o.op = .call { callee := .value fo, args := as.toArray, argTypes := A }) (hf : Env.ev ρ fo = some (.fl (.func (.func f) #[] #[])))
    (d : Nat) (hd : o.dst = some d) (hN : d < N) (hok : FnOK P f) (ha : evs ρ as args) (h : Spec P f args r) (hk : AO P N ops rest K ((d, r) :: ρ) H) : AO P N ops (o :: rest) K ρ H := by
  intro F g a w Q h1 h2 h3 h4
  unfold wpList
  rw [if_pos (hw g a h1)]
  left
  unfold Oper.wp
  rw [run_call ho (h1.ev hf) hok]
  refine (h g _ w (ha.all h1) h3.ro).mono ?_
  rintro e w' ⟨v, g', rfl, hg, hv, hro, hnew, hb⟩
  refine hk F g' _ w' Q (by rw [hd]; exact (h1.mono hg).put hv (by omega)) (by rw [put_size]; exact h2) (h3.ext hb hg hro hnew) ?_
  intro g2 ρ' H2 a' w2 k1 k2 k3 k4 k5 k6
  exact h4 g2 ρ' H2 a' w2 (hg.trans k1) k2 k3 (by rw [k4, put_defers]) k5 k6

/-- A call over our objects. -/
theorem AO.callH {fo : Operand} {as : List Operand} {A : Array TypeId} {f : FuncId} (args : List AV) (H1 : Heap) (Q1 : AV → Heap → Prop) (ho : o.op = .call { callee := .value fo, args := as.toArray, argTypes := A }) (hf : Env.ev ρ fo = some (.fl (.func (.func f) #[] #[])))
    (hg : o.guard = none) (d : Nat) (hd : o.dst = some d) (hN : d < N) (hok : FnOK P f) (ha : evs ρ as args) (hH : Sub H1 H) (h : SpecH P f args H1 Q1) (hk : ∀ r H', Q1 r H' → AO P N ops rest K ((d, r) :: ρ) H') : AO P N ops (o :: rest) K ρ H := by
  intro F g a w Q h1 h2 h3 h4
  unfold wpList
  rw [if_pos (wanted_none hg _)]
  left
  unfold Oper.wp
  rw [run_call ho (h1.ev hf) hok]
  refine (h F g _ w (ha.all h1) (h3.sub hH)).mono ?_
  rintro e w' ⟨v, g', H', r, rfl, hg, hv, hs, hq⟩
  refine hk r H' hq F g' _ w' Q (by rw [hd]; exact (h1.mono hg).put hv (by omega)) (by rw [put_size]; exact h2) hs ?_
  intro g2 ρ' H2 a' w2 k1 k2 k3 k4 k5 k6
  exact h4 g2 ρ' H2 a' w2 (hg.trans k1) k2 k3 (by rw [k4, put_defers]) k5 k6
theorem AO.callH0 {fo : Operand} {as : List Operand} {A : Array TypeId} {f : FuncId} (args : List AV) (H1 : Heap) (Q1 : AV → Heap → Prop) (ho : o.op = .call { callee := .value fo, args := as.toArray, argTypes := A }) (hf : Env.ev ρ fo = some (.fl (.func (.func f) #[] #[])))
    (hg : o.guard = none) (hd : o.dst = none) (hok : FnOK P f) (ha : evs ρ as args) (hH : Sub H1 H) (h : SpecH P f args H1 Q1) (hk : ∀ r H', Q1 r H' → AO P N ops rest K ρ H') : AO P N ops (o :: rest) K ρ H := by
  intro F g a w Q h1 h2 h3 h4
  unfold wpList
  rw [if_pos (wanted_none hg _)]
  left
  unfold Oper.wp
  rw [run_call ho (h1.ev hf) hok]
  refine (h F g _ w (ha.all h1) (h3.sub hH)).mono ?_
  rintro e w' ⟨v, g', H', r, rfl, hg, hv, hs, hq⟩
  show wpList P ops Q rest (a.put o.dst v) w'
  rw [hd]
  exact hk r H' hq F g' _ w' Q (h1.mono hg) h2 hs fun g2 ρ' H2 a' w2 k1 k2 k3 k4 k5 k6 => h4 g2 ρ' H2 a' w2 (hg.trans k1) k2 k3 k4 k5 k6
end

/-! ### A function's entry and end -/
def params : Nat → List AV → Env
  | _, [] => []
  | i, x :: xs => (i, x) :: params (i + 1) xs

/-- What the results are. -/
def Results (P : Program) (ρ : Env) (H : Heap) : List ResultVar → List AV → Prop
  | [], [] => True
  | .tmp t :: rs, x :: xs => ρ.lookup t = some x ∧ x.notTup = true ∧ Results P ρ H rs xs
  | .cell t T :: rs, x :: xs => (∃ (n i : Nat), ρ.lookup t = some (AV.ptr n 0) ∧ H[i]? = some (n, Mem.mem x) ∧ tyAgg P T = some x.isAgg ∧ tySize P T = some x.size) ∧ Results P ρ H rs xs
  | _, _ => False
def single : List AV → AV
  | [x] => x
  | xs => .tup xs
def RetQ (P : Program) (res : List ResultVar) (Q : AV → Heap → Prop) : Exit → Env → Heap → Prop
  | .ret, ρ, H | .normal, ρ, H => ∃ xs, Results P ρ H res xs ∧ Q (single xs) H
  | _, _, _ => False

theorem params_lookup : ∀ {xs : List AV} {i t : Nat} {x : AV}, List.lookup t (params i xs) = some x → i ≤ t ∧ xs[t - i]? = some x
  | [], i, t, x, h => by cases h
  | y :: ys, i, t, x, h => by
    simp only [params] at h
    rw [lookup_cons] at h
    by_cases e : t = i
    · rw [if_pos e] at h; cases h; subst e; simp
    · rw [if_neg e] at h
      obtain ⟨h1, h2⟩ := params_lookup h
      refine ⟨by omega, ?_⟩
      obtain ⟨k, hk⟩ : ∃ k, t - i = k + 1 := ⟨t - i - 1, by omega⟩
      rw [hk, List.getElem?_cons_succ]
      rw [show t - (i + 1) = k by omega] at h2
      exact h2

theorem run_results {P : Program} {a : Act} {w : World} {F : Fr} {g : G} {ρ : Env} {H : Heap} (s : ESat g ρ a) (h3 : WSat F g H w) (f : ResultVar → Sem Value) (f1 : ∀ t, f (.tmp t) = pure (a.tmps.getD t undef)) (f2 : ∀ c t, f (.cell c t) = (do loadVar t (← asAddr (a.tmps.getD c undef)))) : ∀ {res : List ResultVar} {xs : List AV}, Results P ρ H res xs →
    ∃ vs : List Value, (res.mapM f).run P w = .ok vs w ∧ All2 (V1 g) xs vs
  | [], [], _ => ⟨[], by simp, .nil⟩
  | .tmp t :: rs, x :: xs, h => by
    obtain ⟨vs, h1, h2⟩ := run_results s h3 f f1 f2 h.2.2
    refine ⟨a.tmps.getD t undef :: vs, ?_, .cons ((s t x h.1).toV1 h.2.1) h2⟩
    simp only [List.mapM_cons, f1, Sem.run_bind, Sem.run_pure, Result.andThen_ok, h1]
  | .cell t T :: rs, x :: xs, h => by
    obtain ⟨vs, h1, h2⟩ := run_results s h3 f f1 f2 h.2
    obtain ⟨n, i, e1, e2, e3, e4⟩ := h.1
    have hp : Sim g (.ptr n 0) [a.tmps.getD t undef] := s t _ e1
    generalize hv : a.tmps.getD t undef = v at hp
    cases hp with
    | @ptr _ _ p b hn hb =>
      obtain ⟨m, sm, hlt, hm⟩ := h3.at e2 At.here hn hb
      have := run_loadVar (P := P) (w := w) sm hm e3 e4
      refine ⟨asValue x.isAgg m :: vs, ?_, .cons (V1.asValue sm) h2⟩
      have e : (asAddr (a.tmps.getD t undef)).run P w = .ok ⟨b, p.base + 0, none⟩ w := by rw [hv]; rfl
      simp only [List.mapM_cons, f2, Sem.run_bind, Sem.run_pure, Result.andThen_ok, e, this, h1]
  | [], _ :: _, h => h.elim
  | _ :: _, [], h => by cases ‹ResultVar› <;> exact h.elim

theorem body_end {P : Program} {fn : Func} {res : List ResultVar} (hres : fn.results = res.toArray) {a : Act} {w : World} {F : Fr} {g : G} {ρ : Env} {H : Heap} {xs : List AV} (s : ESat g ρ a) (h3 : WSat F g H w) (h : Results P ρ H res xs) :
    ∃ v, (results fn a.tmps).run P w = .ok v w ∧ V g (single xs) v := by
  obtain ⟨vs, h1, h2⟩ := run_results s h3 (fun | .tmp t => pure (a.tmps.getD t undef) | .cell c t => do loadVar t (← asAddr (a.tmps.getD c undef))) (fun _ => rfl) (fun _ _ => rfl) h
  refine ⟨if hv : vs.toArray.size = 1 then vs.toArray[0] else .tuple vs.toArray, ?_, ?_⟩
  · unfold results
    rw [hres, List.mapM_toArray]
    simp only [Sem.run_bind, map_eq_pure_bind]
    refine (congrArg (fun r => (Result.andThen (Result.andThen r _) _)) h1).trans ?_
    simp only [Result.andThen_ok, Sem.run_pure]
  · cases h2 with
    | nil => exact ⟨[], by simp, .nil⟩
    | @cons x v xs vs hx hr =>
      cases hr with
      | nil => simpa [single] using hx.toV
      | cons hy hr => exact ⟨_, by simp, .cons hx (.cons hy hr)⟩

theorem init_sat {g : G} {args : List AV} {cargs : List Value} (h : All2 (V1 g) args cargs) (k : Nat) : ESat g (params 0 args) { tmps := cargs.toArray ++ Array.replicate k undef, defers := [] } := by
  intro t x hx
  obtain ⟨_, h2⟩ := params_lookup hx
  obtain ⟨v, h3, h4⟩ := h.get (by simpa using h2)
  have hlt : t < cargs.length := (List.getElem?_eq_some_iff.1 h3).1
  have : (cargs.toArray ++ Array.replicate k undef).getD t undef = v := by
    simp [Array.getElem?_append_left (show t < cargs.toArray.size by simpa using hlt), h3]
  show V g x ((cargs.toArray ++ Array.replicate k undef).getD t undef)
  rw [this]; exact h4.toV

theorem FnOK.mk {P : Program} {f : FuncId} {fn : Func} {c : Code} (hf : P.funcs[f]? = some fn) (hb : fn.body = some c) (hn : (fn.name == "runtime.NumGoroutine") = false) : FnOK P f := ⟨fn, hf, by rw [hb]; rfl, hn⟩

theorem Spec.intro {P : Program} {f : FuncId} {fn : Func} {c : Code} {N : Nat} {args : List AV} {r : AV} {res : List ResultVar} (hf : P.funcs[f]? = some fn) (hb : fn.body = some c) (hN : fn.ntmps = N) (hres : fn.results = res.toArray) (hl : args.length ≤ N)
    (h : AW P N c (RetQ P res fun x _ => x = r) (params 0 args) []) : Spec P f args r := by
  intro g cargs w ha hro
  have hlen := ha.length
  refine calls_of_wp hf hb ?_
  refine h ⟨w.heap.size, w, g.ro⟩ g _ w _ (init_sat ha _) (by simp [hN]; omega) ⟨Below.refl _ _, Nat.le_refl _, hro, fun _ _ _ _ h => h, fun n m h => by simp at h, List.Pairwise.nil⟩ ?_
  intro e g' ρ' H' a' w' k1 k2 k3 k4 k5 k6
  have fin : (∃ xs, Results P ρ' H' res xs ∧ single xs = r) → bodyPost P fn (fun e w' => ∃ v g', e = .returned v ∧ g.le g' ∧ V g' r v ∧ (∀ b o y, g'.ro b o = some y → w'.cell? ⟨b, o, none⟩ = some y) ∧
      (∀ b o y, b < w.heap.size → g'.ro b o = some y → g.ro b o = some y) ∧ Below w.heap.size w w') .ret a' w' := by
    rintro ⟨xs, h1, rfl⟩
    obtain ⟨v, h2, h3⟩ := body_end hres k2 k5 h1
    exact ⟨k4, v, h2, v, g', rfl, k1, h3, k5.ro, k5.r0, k5.below⟩
  cases e with
  | ret => exact fin k6
  | normal => exact fin k6
  | _ => exact k6.elim

theorem SpecH.intro {P : Program} {f : FuncId} {fn : Func} {c : Code} {N : Nat} {args : List AV} {H : Heap} {Q : AV → Heap → Prop} {res : List ResultVar} (hf : P.funcs[f]? = some fn) (hb : fn.body = some c) (hN : fn.ntmps = N) (hres : fn.results = res.toArray) (hl : args.length ≤ N)
    (h : AW P N c (RetQ P res Q) (params 0 args) H) : SpecH P f args H Q := by
  intro F g cargs w ha hs
  have hlen := ha.length
  refine calls_of_wp hf hb ?_
  refine h F g _ w _ (init_sat ha _) (by simp [hN]; omega) hs ?_
  intro e g' ρ' H' a' w' k1 k2 k3 k4 k5 k6
  have fin : (∃ xs, Results P ρ' H' res xs ∧ Q (single xs) H') → bodyPost P fn (fun e w' => ∃ v g' H' r, e = .returned v ∧ g.le g' ∧ V g' r v ∧ WSat F g' H' w' ∧ Q r H') .ret a' w' := by
    rintro ⟨xs, h1, hq⟩
    obtain ⟨v, h2, h3⟩ := body_end hres k2 k5 h1
    exact ⟨k4, v, h2, v, g', H', _, rfl, k1, h3, k5, hq⟩
  cases e with
  | ret => exact fin k6
  | normal => exact fin k6
  | _ => exact k6.elim

/-- A pure call is one over whatever objects. -/
theorem Spec.toH {P : Program} {f : FuncId} {args : List AV} {r : AV} (h : Spec P f args r) (H : Heap) : SpecH P f args H fun x H' => x = r ∧ H' = H :=
  fun F g cargs w ha hs => (h g cargs w ha hs.ro).mono fun e w' ⟨v, g', he, hg, hv, hro, hnew, hb⟩ => ⟨v, g', H, r, he, hg, hv, hs.ext hb hg hro hnew, rfl, rfl⟩

#print axioms Spec.intro
end Go.Avl
