/- Parts: Av34, Av35, Av36, Av37, Av38, Av39. -/
import Derived.Test.YtmgiffbobkgcmaaAv2
import Derived.RangeFuncIn
import Derived.RangeFuncCalls
import Derived.TacticsIn
import Derived.RangeFuncRecord
import Derived.RangeFuncLeaves
/- Code of rounds of a range over a function: operations within a fence. -/
namespace Go.Avl
open Go Go.RowKit
set_option linter.all false

/-- A fence that lets all by: at large, or within a round. -/
structure Open_ (F : Fence) (P : Program) : Prop where
  fn : ∀ f, F.fn f
  depth : F.depth = none
  call : ∀ (n : Nat) (f : FuncId) (args : Array Value) (w : World) (R : Ending → World → Prop), Calls P f args w R → CallsIn F n P f args w R
  row : ∀ (n : Nat) (r : String) (args : Array Value) (w : World) (R : Value → World → Prop), Rows P r args w R → RowsIn F n P r args w R
theorem wpListIn_of {F : Fence} {P : Program} (hF : Open_ F P) {n : Nat} {ops : Array Oper} {Q : Exit → Act → World → Prop} (hQ : ¬ LetsOut Q) : ∀ (rest : List Oper) (a : Act) (w : World), (∀ o ∈ rest, ∀ c, o.op ≠ .defer c) → wpList P ops Q rest a w → wpListIn F n P ops Q rest a w
  | [], a, w, _, h => h
  | o :: rest, a, w, hno, h => by
    have ih : ∀ a w, wpList P ops Q rest a w → wpListIn F n P ops Q rest a w := fun a w h => wpListIn_of hF hQ rest a w (fun o ho => hno o (.tail _ ho)) h
    unfold wpList at h
    unfold wpListIn
    by_cases c : Region.wanted o (yielded ops a.tmps) = true
    · rw [if_pos c] at h ⊢
      rcases h with h | ⟨_, h⟩
      · refine ⟨fun f _ => hF.fn f, ?_⟩
        rw [Oper.semAt_eq _ _ _ (hno o (.head _))]
        unfold Oper.wp at h
        generalize (execOp a.eval o).run P w = r at h ⊢
        have hd : F.depth.isSome = true → 1 ≤ n := fun k => by rw [hF.depth] at k; cases k
        cases r with
        | ok x w' =>
          cases x with
          | value v => exact ih _ _ h
          | skip => exact ih _ _ h
          | defer d => exact ih _ _ h
          | enter f args =>
            refine ⟨hd, hF.call _ _ _ _ _ (Calls.mono h fun e w'' he => ?_)⟩
            cases e with
            | returned v => exact ih _ _ he
            | panicked ch => exact he
            | outgrown => exact he
          | row r args => exact ⟨hd, hF.row _ _ _ _ _ (Rows.mono h fun v w'' he => ih _ _ he)⟩
          | _ => exact h.elim
        | halt x w' =>
          cases x with
          | panic v => exact h
          | _ => exact h.elim
      · exact absurd h hQ
    · rw [if_neg c] at h ⊢
      exact ⟨fun f _ => hF.fn f, ih _ _ h⟩
theorem open_wide (P : Program) : Open_ Fence.wide P where
  fn _ := trivial
  depth := rfl
  call _ _ _ _ _ h := callsIn_wide.2 h
  row _ _ _ _ _ h := fun c cs _ => let ⟨v, w', r, s⟩ := h c cs; ⟨v, w', r, stepsIn_wide.2 s⟩
theorem open_round (P : Program) (l : Nat) : Open_ (Fence.wide.inRound l) P where
  fn _ := trivial
  depth := rfl
  call n _ _ _ _ h := CallsIn.inRound l ((open_wide P).call n _ _ _ _ h)
  row n _ _ _ _ h := (open_wide P).row n _ _ _ _ h

/-- Code within a fence. -/
def AWI (g0 : G) (F : Fence) (P : Program) (N : Nat) (c : Code) (Q : Exit → Env → Heap → Prop) (ρ : Env) (H : Heap) : Prop :=
  ∀ (n : Nat) (Fr : Fr) (g : G) (a : Act) (w : World) (R : Exit → Act → World → Prop), g0.le g → ESat g ρ a → a.tmps.size = N → WSat Fr g H w → ¬ LetsOut R →
    (∀ e g' ρ' H' a' w', g.le g' → ESat g' ρ' a' → a'.tmps.size = N → a'.defers = a.defers → WSat Fr g' H' w' → Q e ρ' H' → R e a' w') → c.wpIn F n P R a w
section
variable {g0 : G} {F : Fence} {P : Program} {N : Nat} {Q : Exit → Env → Heap → Prop} {ρ ρ' : Env} {H H' : Heap} {c c' : Code}
theorem AWI.weak (hs : ESub ρ' ρ) (hH : Sub H' H) (h : AWI g0 F P N c Q ρ' H') : AWI g0 F P N c Q ρ H :=
  fun n Fr g a w R hg h1 h2 h3 hR h4 => h n Fr g a w R hg (hs.sat h1) h2 (h3.sub hH) hR h4
theorem AWI.skip (hs : ESub ρ' ρ) (hH : Sub H' H) (h : Q .normal ρ' H') : AWI g0 F P N .skip Q ρ H :=
  fun n Fr g a w R hg h1 h2 h3 hR h4 => wpIn_skip (h4 _ g ρ' H' a w (.refl g) (hs.sat h1) h2 rfl (h3.sub hH) h)
theorem AWI.exit {id : Nat} (hs : ESub ρ' ρ) (hH : Sub H' H) (h : Q (.exit id) ρ' H') : AWI g0 F P N (.exit id) Q ρ H :=
  fun n Fr g a w R hg h1 h2 h3 hR h4 => wpIn_exit (h4 _ g ρ' H' a w (.refl g) (hs.sat h1) h2 rfl (h3.sub hH) h)
theorem AWI.ret (hs : ESub ρ' ρ) (hH : Sub H' H) (h : Q .ret ρ' H') : AWI g0 F P N .ret Q ρ H :=
  fun n Fr g a w R hg h1 h2 h3 hR h4 => wpIn_ret (h4 _ g ρ' H' a w (.refl g) (hs.sat h1) h2 rfl (h3.sub hH) h)
theorem AWI.seq (h : AWI g0 F P N c (Then (AWI g0 F P N c' Q) Q) ρ H) : AWI g0 F P N (.seq c c') Q ρ H := by
  intro n Fr g a w R hg h1 h2 h3 hR h4
  refine wpIn_seq (h n Fr g a w _ hg h1 h2 h3 (fun ⟨a, w, k⟩ => hR ⟨a, w, k⟩) ?_)
  intro e g' ρ' H' a' w' k1 k2 k3 k4 k5 k6
  cases e with
  | normal => exact k6 n Fr g' a' w' R (hg.trans k1) k2 k3 k5 hR fun e g2 ρ2 H2 a2 w2 j1 j2 j3 j4 j5 j6 => h4 e g2 ρ2 H2 a2 w2 (k1.trans j1) j2 j3 (j4.trans k4) j5 j6
  | _ => exact h4 _ g' ρ' H' a' w' k1 k2 k3 k4 k5 k6
theorem AWI.block {id : Nat} (h : AWI g0 F P N c (InBlock id Q) ρ H) : AWI g0 F P N (.block id c) Q ρ H := by
  intro n Fr g a w R hg h1 h2 h3 hR h4
  refine wpIn_block (h n Fr g a w _ hg h1 h2 h3 (fun ⟨a, w, k⟩ => hR ⟨a, w, k⟩) ?_)
  intro e g' ρ' H' a' w' k1 k2 k3 k4 k5 k6
  cases e with
  | exit id' =>
    simp only [InBlock] at k6
    simp only [Exit.inBlock]
    by_cases h : id' = id
    · rw [if_pos h] at k6 ⊢; exact h4 _ g' ρ' H' a' w' k1 k2 k3 k4 k5 k6
    · rw [if_neg h] at k6 ⊢; exact h4 _ g' ρ' H' a' w' k1 k2 k3 k4 k5 k6
  | _ => exact h4 _ g' ρ' H' a' w' k1 k2 k3 k4 k5 k6
theorem AWI.cond {x : Operand} (b : Bool) (hx : Env.ev ρ x = some (.fl (.bool b))) (ht : b = true → AWI g0 F P N c Q ρ H) (hf : b = false → AWI g0 F P N c' Q ρ H) : AWI g0 F P N (.cond x c c') Q ρ H := by
  intro n Fr g a w R hg h1 h2 h3 hR h4
  have he : a.eval x = .bool b := h1.ev hx
  exact wpIn_cond_split he (fun hb => ht hb n Fr g a w R hg h1 h2 h3 hR h4) (fun hb => hf hb n Fr g a w R hg h1 h2 h3 hR h4)
/-- A region, walked as everywhere. -/
theorem AWI.reg (hF : Open_ F P) {id : Nat} {l : List Oper} (hno : ∀ o ∈ l, ∀ c, o.op ≠ .defer c) (h : AO P N l.toArray l (Q .normal) ρ H) : AWI g0 F P N (.region id l.toArray false) Q ρ H := by
  intro n Fr g a w R hg h1 h2 h3 hR h4
  have k : wpList P l.toArray R l a w := h Fr g a w R h1 h2 h3 fun g' ρ' H' a' w' k1 k2 k3 k4 k5 k6 => h4 _ g' ρ' H' a' w' k1 k2 k3 k4 k5 k6
  have k2 := wpListIn_of (n := n) hF hR l a w hno k
  refine wpIn_region ?_
  rw [List.range_eq_range', show l.toArray.size = l.length by simp, wpOpsIn_eq_wpListIn l 0 (by simp)]
  exact k2
theorem least (p : Nat → Prop) (h : ∃ k, p k) : ∃ k, p k ∧ ∀ j, p j → k ≤ j := by
  obtain ⟨k, hk⟩ := h
  induction k using Nat.strongRecOn with
  | ind k ih =>
    by_cases c : ∃ j, j < k ∧ p j
    · obtain ⟨j, h1, h2⟩ := c; exact ih j h1 h2
    · exact ⟨k, hk, fun j hj => by
        by_cases q : k ≤ j
        · exact q
        · exact absurd ⟨j, by omega, hj⟩ c⟩
open Classical in
theorem wpIn_loop_ghost {n : Nat} {c : Code} {R : Exit → Act → World → Prop} {a : Act} {w : World} (J : Nat → Act → World → Prop) (k0 : Nat) (h0 : J k0 a w)
    (hr : ∀ k a w, J k a w → c.wpIn F n P (Exit.then (fun a' w' => ∃ k', k' < k ∧ J k' a' w') R) a w) : (Code.loop c).wpIn F n P R a w := by
  let μ : Act → World → Nat := fun a w => if h : ∃ k, J k a w then Classical.choose (least _ h) else 0
  refine wpIn_loop (fun a w => ∃ k, J k a w) μ ⟨k0, h0⟩ ?_
  intro a w hk
  have hμ : J (μ a w) a w := by
    show J (if h : ∃ k, J k a w then Classical.choose (least _ h) else 0) a w
    rw [dif_pos hk]
    exact (Classical.choose_spec (least _ hk)).1
  refine wpIn_mono (hr _ a w hμ) ?_
  intro e a' w' h
  cases e with
  | normal =>
    obtain ⟨k', h1, h2⟩ := h
    refine ⟨⟨k', h2⟩, ?_⟩
    have hk' : ∃ k, J k a' w' := ⟨k', h2⟩
    have : (if h : ∃ k, J k a' w' then Classical.choose (least _ h) else 0) ≤ k' := by
      rw [dif_pos hk']
      exact (Classical.choose_spec (least _ hk')).2 _ h2
    exact Nat.lt_of_le_of_lt this h1
  | _ => exact h
theorem AWI.loop (I : Nat → Env → Heap → Prop) (n : Nat) (h0 : I n ρ H) (hr : ∀ k ρ H, I k ρ H → AWI g0 F P N c (Then (fun ρ' H' => ∃ k', k' < k ∧ I k' ρ' H') Q) ρ H) : AWI g0 F P N (.loop c) Q ρ H := by
  intro m Fr g a w R hg h1 h2 h3 hR h4
  refine wpIn_loop_ghost (fun k a' w' => ∃ g' ρ' H', g.le g' ∧ ESat g' ρ' a' ∧ a'.tmps.size = N ∧ a'.defers = a.defers ∧ WSat Fr g' H' w' ∧ I k ρ' H') n ⟨g, ρ, H, .refl g, h1, h2, rfl, h3, h0⟩ ?_
  rintro k a1 w1 ⟨g1, ρ1, H1, k1, k2, k3, k4, k5, k6⟩
  refine hr k ρ1 H1 k6 m Fr g1 a1 w1 _ (hg.trans k1) k2 k3 k5 (fun ⟨a, w, k⟩ => hR ⟨a, w, k⟩) ?_
  intro e g' ρ' H' a' w' j1 j2 j3 j4 j5 j6
  cases e with
  | normal =>
    obtain ⟨k', hk, hI⟩ := j6
    exact ⟨k', hk, g', ρ', H', k1.trans j1, j2, j3, j4.trans k4, j5, hI⟩
  | _ => exact h4 _ g' ρ' H' a' w' (k1.trans j1) j2 j3 (j4.trans k4) j5 j6
end
end Go.Avl
/- Ranges over functions: regions with one operation of another kind among them. -/
namespace Go.Avl
open Go Go.RowKit
set_option linter.all false

/-- Operations of the usual kinds, then others. -/
theorem wpListIn_app {F : Fence} {P : Program} (hF : Open_ F P) {n : Nat} {ops : Array Oper} {Q Q' : Exit → Act → World → Prop} (hQ : ¬ LetsOut Q') (hp : ∀ c a w, Q' (.panic c) a w → Q (.panic c) a w) {post : List Oper} (hn : ∀ a w, Q' .normal a w → wpListIn F n P ops Q post a w) : ∀ (pre : List Oper) (a : Act) (w : World), (∀ o ∈ pre, ∀ c, o.op ≠ .defer c) → wpList P ops Q' pre a w → wpListIn F n P ops Q (pre ++ post) a w
  | [], a, w, _, h => hn a w h
  | o :: pre, a, w, hno, h => by
    have ih : ∀ a w, wpList P ops Q' pre a w → wpListIn F n P ops Q (pre ++ post) a w := fun a w h => wpListIn_app hF hQ hp hn pre a w (fun o ho => hno o (.tail _ ho)) h
    unfold wpList at h
    rw [List.cons_append]
    unfold wpListIn
    by_cases c : Region.wanted o (yielded ops a.tmps) = true
    · rw [if_pos c] at h ⊢
      rcases h with h | ⟨_, h⟩
      · refine ⟨fun f _ => hF.fn f, ?_⟩
        rw [Oper.semAt_eq _ _ _ (hno o (.head _))]
        unfold Oper.wp at h
        generalize (execOp a.eval o).run P w = r at h ⊢
        have hd : F.depth.isSome = true → 1 ≤ n := fun k => by rw [hF.depth] at k; cases k
        cases r with
        | ok x w' =>
          cases x with
          | value v => exact ih _ _ h
          | skip => exact ih _ _ h
          | defer d => exact ih _ _ h
          | enter f args =>
            refine ⟨hd, hF.call _ _ _ _ _ (Calls.mono h fun e w'' he => ?_)⟩
            cases e with
            | returned v => exact ih _ _ he
            | panicked ch => exact hp _ _ _ he
            | outgrown => exact absurd he hQ
          | row r args => exact ⟨hd, hF.row _ _ _ _ _ (Rows.mono h fun v w'' he => ih _ _ he)⟩
          | _ => exact h.elim
        | halt x w' =>
          cases x with
          | panic v => exact hp _ _ _ h
          | _ => exact h.elim
      · exact absurd h hQ
    · rw [if_neg c] at h ⊢
      exact ⟨fun f _ => hF.fn f, ih _ _ h⟩
/-- The operation that calls a round. -/
theorem wpListIn_yield {F : Fence} {P : Program} (hF : Open_ F P) {n : Nat} {ops : Array Oper} {Q : Exit → Act → World → Prop} {o : Oper} {post : List Oper} {a : Act} {w : World} {x : Operand} {as : Array Operand} {ts : Array TypeId} {l : Nat} {d : Nat} {R : Value → World → Prop}
    (hg : o.guard = none) (hd : o.dst = some d) (ho : o.op = .call { callee := .value x, args := as, argTypes := ts }) (hx : a.eval x = .func (.yield l) #[] #[])
    (hy : YieldAt F (n - 1) P l (as.map a.eval) w fun e w' => ∃ v, e = .returned v ∧ R v w') (hR : ∀ v w', R v w' → wpListIn F n P ops Q post (a.put (some d) v) w') : wpListIn F n P ops Q (o :: post) a w := by
  unfold wpListIn
  rw [if_pos (wanted_none hg _)]
  refine ⟨fun f _ => hF.fn f, ?_⟩
  rw [Oper.semAt_eq _ _ _ (fun c h => by rw [ho] at h; cases h)]
  obtain ⟨fn, tmps, assign, body, h1, h2⟩ := hy
  have key : (execOp a.eval o).run P w = .ok (.round l fn tmps assign body) w := by
    simp [execOp, ho, resolve, hx, Deferred.ofValue, invoke, h1]
  rw [key]
  refine ⟨(fun k => by rw [hF.depth] at k; cases k), RoundIn.mono h2 fun e w'' he => ?_⟩
  obtain ⟨v, rfl, hv⟩ := he
  rw [hd]
  exact hR v w'' hv
/-- A region that calls a round. -/
theorem AWI.regY {g0 : G} {F : Fence} {P : Program} {N : Nat} {Q : Exit → Env → Heap → Prop} {ρ : Env} {H : Heap} (hF : Open_ F P) {id : Nat} {l pre post : List Oper} {o : Oper} (hl : l = pre ++ o :: post) (hno : ∀ o ∈ l, ∀ c, o.op ≠ .defer c)
    {x : Operand} {as : Array Operand} {ts : Array TypeId} {l0 : Nat} {d : Nat} (hg : o.guard = none) (hd : o.dst = some d) (hN : d < N) (ho : o.op = .call { callee := .value x, args := as, argTypes := ts }) (K : Env → Heap → Prop)
    (h1 : AO P N l.toArray pre K ρ H)
    (h2 : ∀ (n : Nat) (Fr : Fr) (g : G) (ρ1 : Env) (H1 : Heap) (a : Act) (w : World), g0.le g → K ρ1 H1 → ESat g ρ1 a → a.tmps.size = N → WSat Fr g H1 w → a.eval x = .func (.yield l0) #[] #[] ∧
      YieldAt F n P l0 (as.map a.eval) w fun e w' => ∃ v, e = .returned v ∧ ∃ g' xv H', g.le g' ∧ V g' xv v ∧ WSat Fr g' H' w' ∧ AO P N l.toArray post (Q .normal) ((d, xv) :: ρ1) H') :
    AWI g0 F P N (.region id l.toArray false) Q ρ H := by
  intro n Fr g a w R hg0 e1 e2 e3 hR e4
  refine wpIn_region ?_
  rw [List.range_eq_range', show l.toArray.size = l.length by simp, wpOpsIn_eq_wpListIn l 0 (by simp)]
  have key : wpListIn F n P l.toArray R (pre ++ o :: post) a w := by
    refine wpListIn_app hF (Q' := fun e a' w' => e = .normal ∧ ∃ g' ρ' H', g.le g' ∧ ESat g' ρ' a' ∧ a'.tmps.size = N ∧ a'.defers = a.defers ∧ WSat Fr g' H' w' ∧ K ρ' H') (fun ⟨_, _, h, _⟩ => by cases h) (fun c a w h => by cases h.1) ?_ pre a w (fun o ho => hno o (by rw [hl]; exact List.mem_append.2 (.inl ho))) (h1 Fr g a w _ e1 e2 e3 fun g' ρ' H' a' w' k1 k2 k3 k4 k5 k6 => ⟨rfl, g', ρ', H', k1, k2, k3, k4, k5, k6⟩)
    rintro a1 w1 ⟨_, g1, ρ1, H1, k1, k2, k3, k4, k5, k6⟩
    obtain ⟨hx, hy⟩ := h2 (n - 1) Fr g1 ρ1 H1 a1 w1 (hg0.trans k1) k6 k2 k3 k5
    refine wpListIn_yield hF hg hd ho hx hy ?_
    rintro v w2 ⟨g2, xv, H2, j1, j2, j3, j4⟩
    refine wpListIn_of hF hR post _ _ (fun o ho => hno o (by rw [hl]; exact List.mem_append.2 (.inr (.tail _ ho)))) (j4 Fr g2 _ w2 R ((k2.mono j1).put j2 (by omega)) (by rw [put_size]; exact k3) j3 ?_)
    intro g3 ρ3 H3 a3 w3 m1 m2 m3 m4 m5 m6
    exact e4 .normal g3 ρ3 H3 a3 w3 (k1.trans (j1.trans m1)) m2 m3 (by rw [m4, put_defers, k4]) m5 m6
  rw [← hl] at key
  exact key
end Go.Avl
/- Ranges over functions: blocks that hold one object, turned. -/
namespace Go.Avl
open Go Go.RowKit
set_option linter.all false
theorem WSat.rawAt {F : Fr} {g : G} {H : Heap} {w : World} (s : WSat F g H w) {j n : Nat} {o : Obj} (h : H[j]? = some (n, .raw o)) : ∃ p b, g.nm[n]? = some p ∧ p.b = some b ∧ w.heap[b]? = some o := by
  obtain ⟨p, h1, ⟨b, h2, h3⟩, _⟩ := s.obj n _ (List.mem_of_getElem? h)
  exact ⟨p, b, h1, h2, h3⟩
theorem WSat.putRaw {F : Fr} {g : G} {H : Heap} {w : World} (s : WSat F g H w) {j n b : Nat} {o o' : Obj} {p : Place} (h : H[j]? = some (n, .raw o)) (hn : g.nm[n]? = some p) (hb : p.b = some b) : WSat F g (H.set j (n, .raw o')) (w.putObj b o') := by
  obtain ⟨p', b', h1, h2, h3⟩ := s.rawAt h
  have e : p' = p := Option.some.inj (h1.symm.trans hn)
  subst e
  have e2 : b' = b := Option.some.inj (h2.symm.trans hb)
  subst e2
  have hlt : b' < w.heap.size := (Array.getElem?_eq_some_iff.1 h3).1
  have hs : (w.putObj b' o').heap.size = w.heap.size := by simp [World.putObj]
  refine s.set (w' := w.putObj b' o') (m' := .raw o') (p' := p') h hn (G.le.refl g) (fun _ _ => rfl) rfl rfl rfl (by rw [hs]; exact Nat.le_refl _) (fun k hk hne => ?_) hn ⟨b', hb, World.putObj_heap_same hlt⟩ (fun b hb => .inl hb)
  exact World.putObj_heap_other (fun e => hne (by rw [hb, e]))
end Go.Avl
/- Ranges over functions: one round. -/
namespace Go.Avl
open Go Go.RowKit
set_option linter.all false
/-- How a round may be left. -/
def RoundQ (j nl : Nat) (r : Loop) (S : Option Code → Heap → Prop) : Exit → Env → Heap → Prop
  | .normal, _, H => H[j]? = some (nl, .raw (.loop { r with state := .busy })) ∧ S none (H.set j (nl, .raw (.loop { r with state := .ready, pending := none })))
  | .ret, _, H => H[j]? = some (nl, .raw (.loop { r with state := .busy })) ∧ S (some .ret) (H.set j (nl, .raw (.loop { r with state := .done, pending := some .ret })))
  | .exit id, _, H => H[j]? = some (nl, .raw (.loop { r with state := .busy })) ∧ S (some (.exit id)) (H.set j (nl, .raw (.loop { r with state := .done, pending := some (.exit id) })))
  | _, _, _ => False
theorem yield_round {F : Fence} {P : Program} (hF : Open_ F P) {n : Nat} {Fr : Fr} {g : G} {H : Heap} {w : World} (s : WSat Fr g H w) {j nl l : Nat} {r : Loop} {p : Place} (hj : H[j]? = some (nl, .raw (.loop r))) (hn : g.nm[nl]? = some p) (hl : p.b = some l) (hr : r.state = .ready)
    {args : Array Value} (hs : args.size = r.params.size) {N : Nat} {ρ0 : Env} (h0 : ESat g ρ0 { tmps := (r.params.zip args).foldl (fun tmps (t, a) => tmps.setIfInBounds t a) r.tmps, defers := [] }) (hN : ((r.params.zip args).foldl (fun tmps (t, a) => tmps.setIfInBounds t a) r.tmps).size = N)
    (S : Option Code → Heap → Prop)
    (hA : AWI g (F.inRound l) P N r.assign (Then (fun ρ1 H1 => H1[j]? = some (nl, .raw (.loop r)) ∧ AWI g (F.inRound l) P N r.body (RoundQ j nl r S) ρ1 (H1.set j (nl, .raw (.loop { r with state := .busy })))) (fun _ _ _ => False)) ρ0 H) :
    YieldAt F n P l args w fun e w' => ∃ (jump : Option Code) (g' : G) (H' : Heap), e = .returned (.bool jump.isNone) ∧ g.le g' ∧ WSat Fr g' H' w' ∧ S jump H' := by
  obtain ⟨p', b', q1, q2, q3⟩ := s.rawAt hj
  have e1 : p' = p := Option.some.inj (q1.symm.trans hn)
  subst e1
  have e2 : b' = l := Option.some.inj (q2.symm.trans hl)
  subst e2
  refine ⟨r.fn, _, r.assign, r.body, run_yield q3 hs, roundIn_of_wpIn (hF.fn _) ?_⟩
  refine hA n Fr g _ w _ (G.le.refl g) h0 hN s (fun ⟨_, _, h⟩ => h) ?_
  rintro e g1 ρ1 H1 a1 w1 k1 k2 k3 k4 k5 k6
  cases e with
  | normal =>
    obtain ⟨hj1, hB⟩ := k6
    have hn1 := k1.nm _ _ hn
    obtain ⟨p1, b1, r1, r2, r3⟩ := k5.rawAt hj1
    have e3 : p1 = p' := Option.some.inj (r1.symm.trans hn1)
    subst e3
    have e4 : b1 = b' := Option.some.inj (r2.symm.trans hl)
    subst e4
    refine ⟨_, run_beginRound r3 hr, ?_⟩
    refine hB n Fr g1 a1 _ _ k1 k2 k3 (k5.putRaw hj1 hn1 hl) (fun ⟨a, w, h⟩ => ?_) ?_
    · exact h
    · have fin : ∀ (jump : Option Code) (g2 : G) (H2 : Heap) (w2 : World), g1.le g2 → WSat Fr g2 H2 w2 → H2[j]? = some (nl, .raw (.loop { r with state := .busy })) → S jump (H2.set j (nl, .raw (.loop { r with state := (if jump.isNone then .ready else .done), pending := jump }))) →
          ∃ v w', (Instr.endRound b1 jump).run P w2 = .ok v w' ∧ ∃ (jump : Option Code) (g' : G) (H' : Heap), Ending.returned v = .returned (.bool jump.isNone) ∧ g.le g' ∧ WSat Fr g' H' w' ∧ S jump H' := by
        intro jump g2 H2 w2 m1 m2 m3 m4
        have hn2 := m1.nm _ _ hn1
        obtain ⟨p2, b2, t1, t2, t3⟩ := m2.rawAt m3
        have e5 : p2 = p1 := Option.some.inj (t1.symm.trans hn2)
        subst e5
        have e6 : b2 = b1 := Option.some.inj (t2.symm.trans hl)
        subst e6
        exact ⟨_, _, run_endRound jump t3, jump, g2, _, rfl, k1.trans m1, m2.putRaw m3 hn2 hl, m4⟩
      rintro e g2 ρ2 H2 a2 w2 m1 m2 m3 m4 m5 m6
      cases e with
      | normal => exact fin none g2 H2 w2 m1 m5 m6.1 m6.2
      | ret => exact fin (some .ret) g2 H2 w2 m1 m5 m6.1 m6.2
      | exit id => exact fin (some (.exit id)) g2 H2 w2 m1 m5 m6.1 m6.2
      | _ => exact m6.elim
  | _ => exact k6.elim
end Go.Avl
/- Ranges over functions: the statement itself. -/
namespace Go.Avl
open Go Go.RowKit
set_option linter.all false
/-- The record of a loop, ready. -/
structure RecOK (r : Loop) (tmps : Array Value) (ps : Array Tmp) (assign body : Code) : Prop where
  st : r.state = .ready
  pe : r.pending = none
  tm : r.tmps = tmps
  pa : r.params = ps
  as : r.assign = assign
  bo : r.body = body
theorem wpIn_range {P : Program} {n : Nat} {x : Operand} {ps : Array Tmp} {assign body : Code} {Q : Exit → Act → World → Prop} {a : Act} {w : World} {Fr : Fr} {g : G} {H : Heap} (hs : WSat Fr g H w) (hQ : ¬ LetsOut Q)
    {f : FuncId} {caps : Array Value} (hx : a.eval x = .func (.func f) #[] caps) {fn : Func} {c : Code} {N : Nat} (hf : P.funcs[f]? = some fn) (hb : fn.body = some c) (hN : fn.ntmps = N) (hnm : (fn.name == "runtime.NumGoroutine") = false) (hl : 1 + caps.size ≤ N) (hres : fn.results = #[])
    (xs : List AV) (hxs : All2 (V1 g) xs caps.toList) (T : Option Code → Heap → Prop)
    (hI : ∀ (g1 : G) (l nl nd : Nat) (pl : Place) (r : Loop), g.le g1 → g1.nm[nl]? = some pl → pl.b = some l → RecOK r a.tmps ps assign body →
      AWI g1 Fence.wide P N c (fun e ρ' H' => (e = .ret ∨ e = .normal) ∧ ∃ r' H3, H' = (nl, .raw (.loop r')) :: (nd, .raw (.deferred (some []))) :: H3 ∧ r'.state ≠ .busy ∧ T r'.pending H3)
        (params 0 (.fl (.func (.yield l) #[] #[]) :: xs)) ((nl, .raw (.loop r)) :: (nd, .raw (.deferred (some []))) :: H))
    (hT : ∀ (g' : G) (H3 : Heap) (jump : Option Code) (w' : World) (nl nd bd : Nat) (pd : Place) (r' : Loop), g.le g' → WSat Fr g' ((nl, .raw (.loop r')) :: (nd, .raw (.deferred (some []))) :: H3) w' → T jump H3 → g'.nm[nd]? = some pd → pd.b = some bd →
      (match jump with
       | none => Q .normal { a with defers := { target := .collected bd, args := #[] } :: a.defers } w'
       | some c => c.wpIn Fence.wide n P Q { a with defers := { target := .collected bd, args := #[] } :: a.defers } w')) :
    (Code.rangeFunc x ps assign body).wpIn Fence.wide n P Q a w := by
  refine wpIn_rangeFunc fun fnr _ => ?_
  let w1 := w.alloc (.deferred (some []))
  let r : Loop := { state := .ready, pending := none, fn := fnr, tmps := a.tmps, params := ps, assign, body, defers := w.heap.size }
  let w2 := w1.alloc (.loop r)
  have hl2 : w1.heap.size = w.heap.size + 1 := World.size_alloc ..
  let pd : Place := ⟨some w.heap.size, 0, 0, 0⟩
  let pl : Place := ⟨some (w.heap.size + 1), 0, 0, 0⟩
  have s1 : WSat Fr { g with nm := g.nm ++ [pd] } ((g.nm.length, .raw (.deferred (some []))) :: H) w1 :=
    hs.cons ((Below.refl _ w).alloc (Nat.le_refl _) _) pd _ (fun b h => by cases h; exact Nat.le_refl _) ⟨w.heap.size, rfl, World.alloc_heap_new w _⟩
  let g1 : G := { g with nm := g.nm ++ [pd] }
  have s2 : WSat Fr { g1 with nm := g1.nm ++ [pl] } ((g1.nm.length, .raw (.loop r)) :: (g.nm.length, .raw (.deferred (some []))) :: H) w2 :=
    s1.cons ((Below.refl _ w1).alloc (Nat.le_refl _) _) pl _ (fun b h => by cases h; exact Nat.le_of_eq hl2) ⟨w.heap.size + 1, rfl, by rw [← hl2]; exact World.alloc_heap_new w1 _⟩
  let g2 : G := { g1 with nm := g1.nm ++ [pl] }
  have le1 : g.le g1 := G.le.push g pd
  have le2 : g1.le g2 := G.le.push g1 pl
  have hpl : g2.nm[g1.nm.length]? = some pl := by show (g1.nm ++ [pl])[g1.nm.length]? = _; simp
  have hpd : g2.nm[g.nm.length]? = some pd := le2.nm _ _ (by show (g.nm ++ [pd])[g.nm.length]? = _; simp)
  have hbody : fn.body ≠ none := by rw [hb]; simp
  have hnm' : fn.name ≠ "runtime.NumGoroutine" := by simpa using hnm
  refine ⟨w.heap.size + 1, [{ target := .collected w.heap.size, args := #[] }], w2, { target := .fn (.func f) caps, args := #[.func (.yield (w.heap.size + 1)) #[] #[]] }, w2, f, #[.func (.yield (w.heap.size + 1)) #[] #[]] ++ caps, w2, run_enterLoop_outer fnr a.tmps ps assign body, ?_, fun _ _ => trivial, ?_, (fun h => by cases h), ?_⟩
  · simp [resolve, rangeCall, hx, Deferred.ofValue]
    rfl
  · simp [invoke, callFunc, hf, hnm', hbody]
  · refine (callsIn_of_wp hf hb trivial ?_)
    refine hI g2 (w.heap.size + 1) g1.nm.length g.nm.length pl r (le1.trans le2) hpl rfl ⟨rfl, rfl, rfl, rfl, rfl, rfl⟩ (n - 1) Fr g2 _ w2 _ (.refl _) ?_ ?_ s2 ?_ ?_
    · have := init_sat (g := g2) (args := .fl (.func (.yield (w.heap.size + 1)) #[] #[]) :: xs) (cargs := .func (.yield (w.heap.size + 1)) #[] #[] :: caps.toList) (.cons rfl (hxs.imp fun _ _ k => V1.mono (le1.trans le2) k)) (fn.ntmps - (1 + caps.size))
      have e : (Value.func (Fn.yield (w.heap.size + 1)) #[] #[] :: caps.toList).toArray = #[Value.func (Fn.yield (w.heap.size + 1)) #[] #[]] ++ caps := by simp
      rw [e] at this
      simpa [Nat.add_comm] using this
    · simp [hN]; omega
    · rintro ⟨_, _, h⟩
      exact hQ h
    · rintro e g' ρ' H' a' w' k1 k2 k3 k4 k5 ⟨he, r', H3, rfl, hr', hT'⟩
      have fin : bodyPost P fn (rangePost Fence.wide n P (w.heap.size + 1) Q { a with defers := [{ target := .collected w.heap.size, args := #[] }] ++ a.defers }) .ret a' w' := by
        refine ⟨k4, .tuple #[], ?_, ?_⟩
        · simp [results, hres]
        · have hn' := k1.nm _ _ hpl
          obtain ⟨p', b', q1, q2, q3⟩ := k5.rawAt (j := 0) rfl
          have e1 : p' = pl := Option.some.inj (q1.symm.trans hn')
          subst e1
          have e2 : b' = w.heap.size + 1 := (Option.some.inj q2).symm
          subst e2
          refine ⟨r'.pending, _, run_endLoop q3 hr', ?_⟩
          have s3 := k5.putRaw (o' := .loop { r' with state := .exhausted }) (j := 0) rfl hn' rfl
          have := hT g' H3 r'.pending _ g1.nm.length g.nm.length w.heap.size pd _ ((le1.trans le2).trans k1) s3 hT' (k1.nm _ _ hpd) rfl
          cases hj : r'.pending with
          | none => rw [hj] at this; exact this
          | some c => rw [hj] at this; exact this
      rcases he with rfl | rfl
      · exact fin
      · exact fin
end Go.Avl
/- Ranges over functions: what the walks of a fenced function use. -/
namespace Go.Avl
open Go Go.RowKit
set_option linter.all false
def noDef (l : List Oper) : Bool := l.all fun o => match o.op with | .defer _ => false | _ => true
theorem noDef_ok {l : List Oper} (h : noDef l = true) : ∀ o ∈ l, ∀ c, o.op ≠ .defer c := by
  intro o ho c hc
  have := (List.all_eq_true.1 h) o ho
  rw [hc] at this; cases this
section
variable {g0 : G} {F : Fence} {P : Program} {N : Nat} {Q : Exit → Env → Heap → Prop} {ρ ρ' : Env} {H H' : Heap}
theorem AWI.sr (hF : Open_ F P) {id : Nat} {l : List Oper} {rest : Code} (hno : noDef l = true) (h : AO P N l.toArray l (Then (AWI g0 F P N rest Q) Q .normal) ρ H) : AWI g0 F P N (.seq (.region id l.toArray false) rest) Q ρ H := AWI.seq (AWI.reg hF (noDef_ok hno) h)
theorem AWI.rg (hF : Open_ F P) {id : Nat} {l : List Oper} (hno : noDef l = true) (h : AO P N l.toArray l (Q .normal) ρ H) : AWI g0 F P N (.region id l.toArray false) Q ρ H := AWI.reg hF (noDef_ok hno) h
/-- A raw call at the end of a region. -/
theorem wpListIn_callRaw (hF : Open_ F P) {n : Nat} {ops : Array Oper} {Q : Exit → Act → World → Prop} {o : Oper} {a : Act} {w : World} {fo : Operand} {ys : List Operand} {A : Array TypeId} {f : FuncId} {d : Nat} {R : Ending → World → Prop} (ho : o.op = .call { callee := .value fo, args := ys.toArray, argTypes := A }) (hg : o.guard = none) (hd : o.dst = some d) (hf : a.eval fo = .func (.func f) #[] #[]) (hok : FnOK P f) (h : Calls P f (ys.map a.eval).toArray w R)
    (hR : ∀ e w', R e w' → ∃ v, e = .returned v ∧ Q .normal (a.put (some d) v) w') : wpListIn F n P ops Q [o] a w := by
  unfold wpListIn
  rw [if_pos (wanted_none hg _)]
  refine ⟨fun f _ => hF.fn f, ?_⟩
  rw [Oper.semAt_eq _ _ _ (fun c h => by rw [ho] at h; cases h), run_call ho hf hok]
  refine ⟨(fun k => by rw [hF.depth] at k; cases k), hF.call _ _ _ _ _ (Calls.mono h fun e w'' he => ?_)⟩
  obtain ⟨v, rfl, hv⟩ := hR e w'' he
  rw [hd]
  exact hv
theorem wpIn_region_app (hF : Open_ F P) {n id : Nat} {l pre post : List Oper} (hl : l = pre ++ post) (hno : noDef l = true) {R : Exit → Act → World → Prop} (hR : ¬ LetsOut R) {Fr : Fr} {g : G} {a : Act} {w : World} (K : Env → Heap → Prop) (h1 : ESat g ρ a) (h2 : a.tmps.size = N) (h3 : WSat Fr g H w) (hpre : AO P N l.toArray pre K ρ H)
    (hpost : ∀ g' ρ' H' a' w', g.le g' → ESat g' ρ' a' → a'.tmps.size = N → a'.defers = a.defers → WSat Fr g' H' w' → K ρ' H' → wpListIn F n P l.toArray R post a' w') : (Code.region id l.toArray false).wpIn F n P R a w := by
  refine wpIn_region ?_
  rw [List.range_eq_range', show l.toArray.size = l.length by simp, wpOpsIn_eq_wpListIn l 0 (by simp)]
  have key : wpListIn F n P l.toArray R (pre ++ post) a w := by
    refine wpListIn_app hF (Q' := fun e a' w' => e = .normal ∧ ∃ g' ρ' H', g.le g' ∧ ESat g' ρ' a' ∧ a'.tmps.size = N ∧ a'.defers = a.defers ∧ WSat Fr g' H' w' ∧ K ρ' H') (fun ⟨_, _, h, _⟩ => by cases h) (fun c a w h => by cases h.1) ?_ pre a w (fun o ho => noDef_ok hno o (by rw [hl]; exact List.mem_append.2 (.inl ho))) (hpre Fr g a w _ h1 h2 h3 fun g' ρ' H' a' w' k1 k2 k3 k4 k5 k6 => ⟨rfl, g', ρ', H', k1, k2, k3, k4, k5, k6⟩)
    rintro a1 w1 ⟨_, g1, ρ1, H1, k1, k2, k3, k4, k5, k6⟩
    exact hpost g1 ρ1 H1 a1 w1 k1 k2 k3 k4 k5 k6
  rw [← hl] at key
  exact key
theorem WSat.coeFld {F : Fr} {g : G} {w : World} (s : WSat F g H w) (j : Nat) {m off : Nat} {X X' y y' : AV} (hj : H[j]? = some (m, .mem X)) (hp : Put X off y y' X') (hy : y.isAgg = false) (hc : ∀ g v, Sim g y [v] → Sim g y' [v]) (harz : X'.arz = X.arz) (hcap : X'.capn = X.capn) : WSat F g (H.set j (m, .mem X')) w :=
  s.retell (map_set_eraseIdx _ hj rfl) fun n m' hm => by
    rcases List.mem_or_eq_of_mem_set hm with h | h
    · exact ⟨m', h, fun _ h => h⟩
    · cases h; exact ⟨.mem X, List.mem_of_getElem? hj, fun p h => h.put hp hy (hc g) harz hcap⟩
end
section
variable {P : Program}
theorem wpList_val {ops : Array Oper} {Q : Exit → Act → World → Prop} {o : Oper} {rest : List Oper} {a : Act} {w : World} {v : Value} (hg : o.guard = none) (hr : (execOp a.eval o).run P w = .ok (.value v) w) (h : wpList P ops Q rest (a.put o.dst v) w) : wpList P ops Q (o :: rest) a w := by
  unfold wpList
  rw [if_pos (wanted_none hg _)]
  left
  unfold Oper.wp
  rw [hr]
  exact h
end
end Go.Avl
