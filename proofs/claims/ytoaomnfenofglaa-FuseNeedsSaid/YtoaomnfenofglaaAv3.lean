/- Parts: Av29, Av30, Av31. -/
import Derived.Test.YtoaomnfenofglaaAv2
import Derived.Scope
/- Parts of our own rows, rows cut and grown again, copies, labels. -/
namespace Go.Avl
open Go Go.RowKit
set_option linter.unusedVariables false
set_option linter.unusedSimpArgs false
section
variable {P : Program} {N : Nat} {Q : Exit → Env → Heap → Prop} {ρ ρ' : Env} {H H' : Heap}
theorem AW.label {l : Nat} (hs : ESub ρ' ρ) (hH : Sub H' H) (h : Q .normal ρ' H') : AW P N (.label l) Q ρ H :=
  fun F g a w R h1 h2 h3 h4 => wp_label (h4 _ g ρ' H' a w (.refl g) (hs.sat h1) h2 rfl (h3.sub hH) h)
def NoGoto (Q : Exit → Env → Heap → Prop) : Exit → Env → Heap → Prop
  | .goto _, _, _ => False
  | e, ρ, H => Q e ρ H
theorem AW.scope {c : Code} (h : AW P N c (NoGoto Q) ρ H) : AW P N (.scope c) Q ρ H := by
  intro F g a w R h1 h2 h3 h4
  refine wp_scope_straight (h F g a w _ h1 h2 h3 ?_)
  intro e g' ρ' H' a' w' k1 k2 k3 k4 k5 k6
  cases e with
  | goto l => exact k6.elim
  | _ => exact h4 _ g' ρ' H' a' w' k1 k2 k3 k4 k5 k6
end
section
variable {P : Program} {N : Nat} {ops : Array Oper} {o : Oper} {rest : List Oper} {K : Env → Heap → Prop} {ρ : Env} {H : Heap}
theorem Sim.ar_drop {g : G} {z : Nat} : ∀ (k : Nat) {els : List AV} {l : List Value}, Sim g (.ar z els) l → Sim g (.ar z (els.drop k)) (l.drop (k * z))
  | 0, els, l, s => by simpa using s
  | k + 1, els, l, s => by
    cases s with
    | arNil => simpa using Sim.arNil
    | @arCons _ c cs l0 r a b d =>
      have ih := Sim.ar_drop k d
      rw [List.drop_succ_cons, show (k + 1) * z = l0.length + k * z by rw [b, Nat.add_mul]; omega, List.drop_length_add_append]
      exact ih
/-- What stands behind the first so many, as a row of its own; the whole is given up. -/
theorem AO.sufNew {α : Type} {f : α → AV} {l : List α} {T E : TypeId} {y : Operand} {lo : Option Operand} {z n : Nat} {b0 : Int} (i : Nat) (d : Nat) (hd : o.dst = some d) (hN : d < N) (hg : o.guard = none)
    (ho : o.op = .slice T y lo none none) (hy : Env.ev ρ y = some (.own n 0 l.length)) (hl : lowOf ρ lo = some b0) (hi : H[i]? = some (n, .mem (.ar z (l.map f)))) (hb : 0 ≤ b0 ∧ b0 ≤ (l.length : Int))
    (ht : P.underlying T = some (.slice E)) (hz : tySize P E = some z)
    (h : ∀ n', AO P N ops rest K ((d, .own n' 0 (l.drop b0.toNat).length) :: ρ) (H.set i (n', .mem (.ar z ((l.drop b0.toNat).map f))))) : AO P N ops (o :: rest) K ρ H :=
  AO.step hg d hd hN fun F g a w s h3 => by
    have e1 : Sim g (.own n 0 l.length) [a.eval y] := s.ev hy
    obtain ⟨p', q1, q2, q3⟩ := h3.obj n _ (List.mem_of_getElem? hi)
    have hez : z = p'.esz := q2.1 z rfl
    generalize hv : a.eval y = v at e1
    generalize hL : l.length = L at e1
    have hdl : (l.drop b0.toNat).length = L - b0.toNat := by rw [List.length_drop, hL]
    have none_case : ∀ ad, L = b0.toNat → (execOp a.eval o).run P w = .ok (.value (.slice ad 0 0)) w →
        ∃ v g' w' x' H', (execOp a.eval o).run P w = .ok (.value v) w' ∧ g.le g' ∧ V g' x' v ∧ WSat F g' H' w' ∧ AO P N ops rest K ((d, x') :: ρ) H' := by
      intro ad hLb hr
      have hnil : l.drop b0.toNat = [] := List.drop_of_length_le (by omega)
      refine ⟨.slice ad 0 0, { g with nm := g.nm ++ [⟨none, 0, 0, z⟩] }, w, _, _, hr, G.le.push g _, ?_, ?_, h g.nm.length⟩
      · rw [hdl, show L - b0.toNat = 0 by omega]
        exact (Sim.own0 (g := { g with nm := g.nm ++ [⟨none, 0, 0, z⟩] }) (n := g.nm.length) (p := ⟨none, 0, 0, z⟩) (off := 0) (by simp) (by simp) : Sim _ _ [_])
      · refine h3.set hi q1 (G.le.push g _) (fun _ _ => rfl) rfl rfl rfl (Nat.le_refl _) (fun k hk hne => rfl) (n' := g.nm.length) (p' := ⟨none, 0, 0, z⟩) (by simp) ?_ (fun b e => by cases e)
        rw [hnil]
        exact ⟨fun z' hz' => by cases hz'; rfl, [], Sim.arNil, .inr ⟨rfl, rfl, rfl, rfl⟩⟩
    cases e1 with
    | @own _ _ _ p b hn hb' hlc =>
      subst hL
      obtain rfl : p' = p := Option.some.inj (q1.symm.trans hn)
      have r := fun w => sliceBounds_run (P := P) (w := w) (isSlice := true) (n := l.length) (cap := p'.cap - 0) (h := (l.length : Int)) (hi := none) s hl rfl hb.1 hb.2 (by omega)
      by_cases hcl : p'.cap = b0.toNat
      · refine none_case (some ⟨b, p'.base + 0 * p'.esz, none⟩) (by omega) ?_
        have r2 := r w
        rw [Nat.sub_zero, hcl] at r2
        simp only [Option.map_none] at r2
        have e0 : l.length - b0.toNat = 0 := by omega
        simp [execOp, ho, hv, Instr.sliceAt, Instr.slice, run_underlying ht, r2, run_tySize hz, hcl, e0]
      · obtain ⟨hz', lc, sl, rr⟩ := q2
        rcases rr with ⟨b', c, T', e5, e6, e7, e8, e9⟩ | ⟨e5, _⟩
        · obtain rfl : b' = b := Option.some.inj (e5.symm.trans hb')
          have r2 := r w
          rw [Nat.sub_zero] at r2
          simp only [Option.map_none] at r2
          have hbc : b0.toNat ≤ p'.cap := by omega
          have hmul : (p'.cap - b0.toNat) * z = p'.cap * z - b0.toNat * z := Nat.sub_mul _ _ _
          have hmul2 : b0.toNat * z ≤ p'.cap * z := Nat.mul_le_mul_right _ hbc
          have hlcl : lc.length = l.length * z := by rw [sl.ar_length, List.length_map]
          have hmul3 : b0.toNat * z ≤ l.length * z := Nat.mul_le_mul_right _ (by omega)
          refine ⟨.slice (some ⟨b', p'.base + b0.toNat * z, none⟩) (l.length - b0.toNat) (p'.cap - b0.toNat), { g with nm := g.nm ++ [⟨some b', p'.base + b0.toNat * z, p'.cap - b0.toNat, z⟩] }, w, _, _, ?_, G.le.push g _, ?_, ?_, h g.nm.length⟩
          · simp [execOp, ho, hv, Instr.sliceAt, Instr.slice, run_underlying ht, r2, run_tySize hz, hcl, Addr.add_lit]
          · have := Sim.own (g := { g with nm := g.nm ++ [⟨some b', p'.base + b0.toNat * z, p'.cap - b0.toNat, z⟩] }) (n := g.nm.length) (off := 0) (len := l.length - b0.toNat) (p := ⟨some b', p'.base + b0.toNat * z, p'.cap - b0.toNat, z⟩) (by simp) rfl (by show 0 + (l.length - b0.toNat) ≤ p'.cap - b0.toNat; omega)
            rw [hdl]
            exact (by simpa using this : Sim _ _ [_])
          · refine h3.set hi hn (G.le.push g _) (fun _ _ => rfl) rfl rfl rfl (Nat.le_refl _) (fun k hk hne => rfl) (n' := g.nm.length) (p' := ⟨some b', p'.base + b0.toNat * z, p'.cap - b0.toNat, z⟩) (by simp) ?_ (fun b e => .inl (by cases e; exact hb'))
            rw [← hez] at e7
            refine ⟨fun z' hz'' => by cases hz''; rfl, lc.drop (b0.toNat * z), ?_, .inl ⟨b', c, T', rfl, e6, ?_, ?_, ?_⟩⟩
            · rw [List.map_drop]; exact (sl.ar_drop _).mono (G.le.push g _)
            · show p'.base + b0.toNat * z + (p'.cap - b0.toNat) * z ≤ c.size; omega
            · show p'.base + b0.toNat * z + (lc.drop (b0.toNat * z)).length ≤ c.size; rw [List.length_drop]; omega
            · intro j u hj
              rw [List.getElem?_drop] at hj
              have := e9 _ _ hj
              rw [← this]; congr 1
              show p'.base + b0.toNat * z + j = _; omega
        · rw [e5] at hb'; cases hb'
    | @own0 _ _ p ad hn hb' =>
      have hl0 : b0 = 0 := by omega
      subst hl0
      have r := fun w => sliceBounds_run (P := P) (w := w) (isSlice := true) (n := 0) (cap := 0) (h := 0) (hi := none) s hl rfl (by omega) (by omega) (by omega)
      refine none_case ad (by simp) ?_
      have r2 := r w
      simp only [Option.map_none] at r2
      simp [execOp, ho, hv, Instr.sliceAt, Instr.slice, run_underlying ht, r2, run_tySize hz]
theorem own_len {g : G} {n a b : Nat} {v : Value} (e : a = b) (h : V g (.own n 0 a) v) : V g (.own n 0 b) v := e ▸ h
theorem vec_size {α : Type} {n z : Nat} (f : α → AV) (v : Vector α n) : (AV.ar z (v.toList.map f)).size = n * z := by simp [AV.size]
end
end Go.Avl
/- The rules under short names, with what follows by computing left out. -/
namespace Go.Avl
open Go Go.RowKit
set_option linter.unusedVariables false
inductive Keep : List Nat → Env → Env → Prop
  | nil {ρ : Env} : Keep [] ρ []
  | cons {t : Nat} {ts : List Nat} {ρ ρ' : Env} {x : AV} : ρ.lookup t = some x → Keep ts ρ ρ' → Keep (t :: ts) ρ ((t, x) :: ρ')
theorem Keep.sub {ts : List Nat} {ρ ρ' : Env} (h : Keep ts ρ ρ') : ESub ρ' ρ := by
  induction h with
  | nil => trivial
  | cons h _ ih => exact ⟨h, ih⟩
theorem bD {a b : Bool} (h : a = b) : some (AV.fl (Value.bool a)) = some (AV.fl (Value.bool b)) := congrArg (fun b => some (AV.fl (Value.bool b))) h
theorem of_ite {p : Prop} [Decidable p] {α : Type} {a b r : α} (h : (if p then a else b) = r) : (p ∧ a = r) ∨ (¬p ∧ b = r) := by
  by_cases q : p
  · exact .inl ⟨q, by rwa [if_pos q] at h⟩
  · exact .inr ⟨q, by rwa [if_neg q] at h⟩
section
variable {P : Program} {N : Nat} {ops : Array Oper} {o : Oper} {rest : List Oper} {K : Env → Heap → Prop} {ρ ρ' : Env} {H H' : Heap} {x : AV}
theorem AO.c {d : Nat} (hc : Calm P o ρ H x) (h : AO P N ops rest K ((d, x) :: ρ) H) (hg : o.guard = none := by rfl) (hd : o.dst = some d := by rfl) (hN : d < N := by decide) : AO P N ops (o :: rest) K ρ H := AO.calm hg d hd hN x hc h
theorem AO.cG {d j e : Nat} {b : Bool} (hg : o.guard = some (j, b)) (he : (ops[j]?).bind (·.dst) = some e) (hb : ρ.lookup e = some (.fl (.bool b))) (hc : Calm P o ρ H x) (h : AO P N ops rest K ((d, x) :: ρ) H) (hd : o.dst = some d := by rfl) (hN : d < N := by decide) : AO P N ops (o :: rest) K ρ H := AO.calmG j b e hg he hb d hd hN x hc h
theorem AO.sT {d j e : Nat} (hg : o.guard = some (j, true)) (he : (ops[j]?).bind (·.dst) = some e) (hb : ρ.lookup e = some (.fl (.bool false))) (h : AO P N ops rest K ((d, .fl undef) :: ρ) H) (hd : o.dst = some d := by rfl) (hN : d < N := by decide) : AO P N ops (o :: rest) K ρ H := AO.skipG j false e hg he hb d hd hN h
theorem AO.sF {d j e : Nat} (hg : o.guard = some (j, false)) (he : (ops[j]?).bind (·.dst) = some e) (hb : ρ.lookup e = some (.fl (.bool true))) (h : AO P N ops rest K ((d, .fl undef) :: ρ) H) (hd : o.dst = some d := by rfl) (hN : d < N := by decide) : AO P N ops (o :: rest) K ρ H := AO.skipG j true e hg he hb d hd hN h
theorem AO.nK (ks : List Nat) (hk : K ρ' H) (hs : Keep ks ρ ρ' := by repeat' (first | exact Keep.nil | apply Keep.cons rfl)) : AO P N ops [] K ρ H := AO.nil hs.sub (Sub.refl _) hk
theorem AO.nH (ks : List Nat) (hH : Sub H' H) (hk : K ρ' H') (hs : Keep ks ρ ρ' := by repeat' (first | exact Keep.nil | apply Keep.cons rfl)) : AO P N ops [] K ρ H := AO.nil hs.sub hH hk
theorem AO.wK (ks : List Nat) (h : AO P N ops rest K ρ' H) (hs : Keep ks ρ ρ' := by repeat' (first | exact Keep.nil | apply Keep.cons rfl)) : AO P N ops rest K ρ H := AO.weak hs.sub (Sub.refl _) h
theorem AO.wH (ks : List Nat) (hH : Sub H' H) (h : AO P N ops rest K ρ' H') (hs : Keep ks ρ ρ' := by repeat' (first | exact Keep.nil | apply Keep.cons rfl)) : AO P N ops rest K ρ H := AO.weak hs.sub hH h
theorem AO.nE {d : Nat} (hl : ρ.lookup d = some x) (hk : K [(d, x)] H) : AO P N ops [] K ρ H := AO.nil (ρ' := [(d, x)]) ⟨hl, trivial⟩ (Sub.refl _) hk
theorem AO.n0 (hk : K [] H) : AO P N ops [] K ρ H := AO.nil (ρ' := []) trivial (Sub.refl _) hk
end
section
variable {P : Program} {N : Nat} {ops : Array Oper} {o : Oper} {rest : List Oper} {K : Env → Prop} {ρ ρ' : Env} {H H' : Heap} {x : AV}
theorem AQ.c {d : Nat} (hc : Calm P o ρ H x) (h : AQ P N ops rest K ((d, x) :: ρ) H) (hg : o.guard = none := by rfl) (hd : o.dst = some d := by rfl) (hN : d < N := by decide) : AQ P N ops (o :: rest) K ρ H := AQ.calm hg d hd hN x hc h
theorem AQ.cG {d j e : Nat} {b : Bool} (hg : o.guard = some (j, b)) (he : (ops[j]?).bind (·.dst) = some e) (hb : ρ.lookup e = some (.fl (.bool b))) (hc : Calm P o ρ H x) (h : AQ P N ops rest K ((d, x) :: ρ) H) (hd : o.dst = some d := by rfl) (hN : d < N := by decide) : AQ P N ops (o :: rest) K ρ H := AQ.calmG j b e hg he hb d hd hN x hc h
theorem AQ.sT {d j e : Nat} (hg : o.guard = some (j, true)) (he : (ops[j]?).bind (·.dst) = some e) (hb : ρ.lookup e = some (.fl (.bool false))) (h : AQ P N ops rest K ((d, .fl undef) :: ρ) H) (hd : o.dst = some d := by rfl) (hN : d < N := by decide) : AQ P N ops (o :: rest) K ρ H := AQ.skipG j false e hg he hb d hd hN h
theorem AQ.sF {d j e : Nat} (hg : o.guard = some (j, false)) (he : (ops[j]?).bind (·.dst) = some e) (hb : ρ.lookup e = some (.fl (.bool true))) (h : AQ P N ops rest K ((d, .fl undef) :: ρ) H) (hd : o.dst = some d := by rfl) (hN : d < N := by decide) : AQ P N ops (o :: rest) K ρ H := AQ.skipG j true e hg he hb d hd hN h
theorem AQ.nK (ks : List Nat) (hk : K ρ') (hs : Keep ks ρ ρ' := by repeat' (first | exact Keep.nil | apply Keep.cons rfl)) : AQ P N ops [] K ρ H := AQ.nil hs.sub hk
end
section
variable {P : Program} {N : Nat} {Q : Exit → Env → Heap → Prop} {ρ ρ' : Env} {H H' : Heap} {c c' : Code}
theorem AW.wK (ks : List Nat) (h : AW P N c Q ρ' H) (hs : Keep ks ρ ρ' := by repeat' (first | exact Keep.nil | apply Keep.cons rfl)) : AW P N c Q ρ H := AW.weak hs.sub (Sub.refl _) h
theorem AW.wH (ks : List Nat) (hH : Sub H' H) (h : AW P N c Q ρ' H') (hs : Keep ks ρ ρ' := by repeat' (first | exact Keep.nil | apply Keep.cons rfl)) : AW P N c Q ρ H := AW.weak hs.sub hH h
theorem AW.sK (ks : List Nat) (h : Q .normal ρ' H) (hs : Keep ks ρ ρ' := by repeat' (first | exact Keep.nil | apply Keep.cons rfl)) : AW P N .skip Q ρ H := AW.skip hs.sub (Sub.refl _) h
theorem AW.sH (ks : List Nat) (hH : Sub H' H) (h : Q .normal ρ' H') (hs : Keep ks ρ ρ' := by repeat' (first | exact Keep.nil | apply Keep.cons rfl)) : AW P N .skip Q ρ H := AW.skip hs.sub hH h
theorem AW.eK {id : Nat} (ks : List Nat) (h : Q (.exit id) ρ' H) (hs : Keep ks ρ ρ' := by repeat' (first | exact Keep.nil | apply Keep.cons rfl)) : AW P N (.exit id) Q ρ H := AW.exit hs.sub (Sub.refl _) h
theorem AW.eH {id : Nat} (ks : List Nat) (hH : Sub H' H) (h : Q (.exit id) ρ' H') (hs : Keep ks ρ ρ' := by repeat' (first | exact Keep.nil | apply Keep.cons rfl)) : AW P N (.exit id) Q ρ H := AW.exit hs.sub hH h
theorem AW.rK (ks : List Nat) (h : Q .ret ρ' H) (hs : Keep ks ρ ρ' := by repeat' (first | exact Keep.nil | apply Keep.cons rfl)) : AW P N .ret Q ρ H := AW.ret hs.sub (Sub.refl _) h
theorem AW.rH (ks : List Nat) (hH : Sub H' H) (h : Q .ret ρ' H') (hs : Keep ks ρ ρ' := by repeat' (first | exact Keep.nil | apply Keep.cons rfl)) : AW P N .ret Q ρ H := AW.ret hs.sub hH h
theorem AW.lK {l : Nat} (ks : List Nat) (h : Q .normal ρ' H) (hs : Keep ks ρ ρ' := by repeat' (first | exact Keep.nil | apply Keep.cons rfl)) : AW P N (.label l) Q ρ H := AW.label hs.sub (Sub.refl _) h
theorem AW.sr {id : Nat} {l : List Oper} {rest : Code} (h : AO P N l.toArray l (Then (AW P N rest Q) Q .normal) ρ H) : AW P N (.seq (.region id l.toArray false) rest) Q ρ H := AW.seq (AW.reg h)
end
end Go.Avl
/- Calls with a nil constant as an argument. -/
namespace Go.Avl
open Go Go.RowKit
set_option linter.unusedVariables false

def evsC (ρ : Env) : List Operand → List AV → Prop
  | [], [] => True
  | y :: ys, x :: xs => (∃ x0, Env.ev ρ y = some x0 ∧ Coe x0 x ∧ x.notTup = true) ∧ evsC ρ ys xs
  | _, _ => False
theorem evsC.all {g : G} {ρ : Env} {a : Act} (s : ESat g ρ a) : ∀ {ys : List Operand} {xs : List AV}, evsC ρ ys xs → All2 (V1 g) xs (ys.map a.eval)
  | [], [], _ => .nil
  | y :: ys, x :: xs, h => by
    obtain ⟨⟨x0, h1, h2, h3⟩, h4⟩ := h
    exact .cons ((h2.v (s.ev h1)).toV1 h3) (evsC.all s h4)
  | [], _ :: _, h => h.elim
  | _ :: _, [], h => h.elim
section
variable {P : Program} {N : Nat} {ops : Array Oper} {o : Oper} {rest : List Oper} {K : Env → Heap → Prop} {ρ : Env} {H : Heap}
theorem AO.callC_w (hw : ∀ g a, ESat g ρ a → Region.wanted o (yielded ops a.tmps) = true) {fo : Operand} {as : List Operand} {A : Array TypeId} {f : FuncId} (args : List AV) (r : AV) (d : Nat) (hd : o.dst = some d) (hN : d < N) (hok : FnOK P f) (ho : o.op = .call { callee := .value fo, args := as.toArray, argTypes := A }) (hf : Env.ev ρ fo = some (.fl (.func (.func f) #[] #[])))
    (ha : evsC ρ as args) (h : Spec P f args r) (hk : AO P N ops rest K ((d, r) :: ρ) H) : AO P N ops (o :: rest) K ρ H := by
  intro F g a w Q h1 h2 h3 h4
  unfold wpList
  rw [if_pos (hw g a h1)]
  left
  unfold Oper.wp
  rw [run_call ho (h1.ev hf) hok]
  refine (h g _ w (ha.all h1) h3.ro h3.tab).mono ?_
  rintro e w' ⟨v, g', rfl, hg, hv, hro, hnew, hb⟩
  refine hk F g' _ w' Q (by rw [hd]; exact (h1.mono hg).put hv (by omega)) (by rw [put_size]; exact h2) (h3.ext hb hg hro hnew) ?_
  intro g2 ρ' H2 a' w2 k1 k2 k3 k4 k5 k6
  exact h4 g2 ρ' H2 a' w2 (hg.trans k1) k2 k3 (by rw [k4, put_defers]) k5 k6
theorem AO.callCG (j : Nat) (b : Bool) (e : Nat) {fo : Operand} {as : List Operand} {A : Array TypeId} {f : FuncId} (args : List AV) (r : AV) (d : Nat) (hd : o.dst = some d) (hN : d < N) (hok : FnOK P f) (hg : o.guard = some (j, b)) (he : (ops[j]?).bind (·.dst) = some e) (hb : ρ.lookup e = some (.fl (.bool b)))
    (ho : o.op = .call { callee := .value fo, args := as.toArray, argTypes := A }) (hf : Env.ev ρ fo = some (.fl (.func (.func f) #[] #[])))
    (ha : evsC ρ as args) (h : Spec P f args r) (hk : AO P N ops rest K ((d, r) :: ρ) H) : AO P N ops (o :: rest) K ρ H :=
  AO.callC_w (fun _ _ s => (wanted_some hg he hb s).trans (by simp)) args r d hd hN hok ho hf ha h hk
end
end Go.Avl
