/- Parts: Av29. -/
import Derived.Test.YtcdennkoccjacaaAv3
import Derived.Scope
/- Parts of our own rows, rows cut and grown again, copies, labels. -/
namespace Go.Avl
open Go Go.RowKit
set_option linter.unusedVariables false
set_option linter.unusedSimpArgs false
abbrev eU16 (n : Int) : AV := .fl (.int .u16 n)
section
variable {P : Program} {N : Nat} {Q : Exit → Env → Heap → Prop} {ρ ρ' : Env} {H H' : Heap}
theorem AW.label {l : Nat} (hs : ESub ρ' ρ) (hH : Sub H' H) (h : Q .normal ρ' H') : AW P N (.label l) Q ρ H :=
  fun F g a w R h1 h2 h3 h4 => wp_label (h4 _ g ρ' H' a w (.refl g) (hs.sat h1) h2 rfl (h3.sub hH) h)
def NoGoto (Q : Exit → Env → Heap → Prop) : Exit → Env → Heap → Prop
  | .goto _, _, _ => False
  | e, ρ, H => Q e ρ H
theorem AW.scope {c : Code} (h : AW P N c (NoGoto Q) ρ H) : AW P N (.scope c) Q ρ H := by
  intro F g a w R h1 h2 h3 h4
  refine wp_scope_straight (h F g a w _ h1 h2 h3 ?_)
  intro e g' ρ' H' a' w' k1 k2 k3 k4 k5 k6
  cases e with
  | goto l => exact k6.elim
  | _ => exact h4 _ g' ρ' H' a' w' k1 k2 k3 k4 k5 k6
end
section
variable {P : Program} {N : Nat} {ops : Array Oper} {o : Oper} {rest : List Oper} {K : Env → Heap → Prop} {ρ : Env} {H : Heap}
/-- The first so many of a row of our own. -/
theorem Calm.preO {T E : TypeId} {y : Operand} {hi : Option Operand} {z n len : Nat} {els : List AV} {h : Int} (j : Nat) (ho : o.op = .slice T y none hi none) (hy : Env.ev ρ y = some (.own n 0 len)) (hh : highOf ρ len hi = some h)
    (hH : H[j]? = some (n, .mem (.ar z els))) (hb : 0 ≤ h ∧ h ≤ (len : Int)) (ht : P.underlying T = some (.slice E)) (hz : tySize P E = some z) : Calm P o ρ H (.own n 0 h.toNat) := by
  have := Calm.sliceOwn (l := 0) (h := h) j ho hy rfl hh hH (by omega) hb.1 hb.2 ht hz
  simpa using this
/-- What stands behind the first so many. -/
theorem Calm.sufO {T E : TypeId} {y : Operand} {lo : Option Operand} {z n len : Nat} {els : List AV} {l : Int} (j : Nat) (ho : o.op = .slice T y lo none none) (hy : Env.ev ρ y = some (.own n 0 len)) (hl : lowOf ρ lo = some l)
    (hH : H[j]? = some (n, .mem (.ar z els))) (hb : 0 ≤ l ∧ l ≤ (len : Int)) (ht : P.underlying T = some (.slice E)) (hz : tySize P E = some z) : Calm P o ρ H (.own n l.toNat (len - l.toNat)) := by
  have := Calm.sliceOwn (l := l) (h := len) j ho hy hl rfl hH hb.1 hb.2 (Int.le_refl _) ht hz
  simpa using this
/-- An element of such a part. -/
theorem Calm.idxSufO {T E : TypeId} {y iy : Operand} {z n len : Nat} {els : List AV} {k : IntKind} {a i : Int} (j : Nat) (ho : o.op = .indexAddr T y iy) (hy : Env.ev ρ y = some (.own n a.toNat len)) (hiy : Env.ev ρ iy = some (.fl (.int k i)))
    (hH : H[j]? = some (n, .mem (.ar z els))) (ha : 0 ≤ a) (hb : 0 ≤ i ∧ i < (len : Int)) (ht : P.underlying T = some (.slice E)) (hz : tySize P E = some z) : Calm P o ρ H (.ptr n ((a + i).toNat * z + 0)) := by
  have := Calm.idxOwn (H := H) j ho hy hiy hH hb.1 hb.2 ht hz
  rw [show (a + i).toNat = a.toNat + i.toNat by omega]; simpa using this
/-- More behind the first so many. -/
theorem AO.appendCut {α : Type} {f : α → AV} {l m : List α} {T U E E' : TypeId} {s y : Operand} {z by' n c : Nat} {xv : AV} {zl : List Value} (i : Nat) (d : Nat) (hd : o.dst = some d) (hN : d < N) (hg : o.guard = none)
    (ho : o.op = .call { callee := .builtin .append, args := #[s, y], argTypes := #[T, U] }) (hs : Env.ev ρ s = some (.own n 0 c)) (hc : c ≤ l.length) (hy : Env.ev ρ y = some xv) (hi : H[i]? = some (n, .mem (.ar z (l.map f)))) (hsrc : Src H z xv (m.map f))
    (ht : P.underlying T = some (.slice E)) (hu : P.underlying U = some (.slice E')) (hz : tySize P E = some z) (hby : tyBytes P E = some by') (hzero : tyZero P E = some zl) (hzl : zl.length = z)
    (hbound : (l.take c ++ m).length * by' ≤ 140737488355328) (hpos : 1 ≤ by')
    (h : ∀ n', AO P N ops rest K ((d, .own n' 0 (l.take c ++ m).length) :: ρ) (H.set i (n', .mem (.ar z ((l.take c ++ m).map f))))) : AO P N ops (o :: rest) K ρ H := by
  have hl : (l.take c ++ m).length = c + m.length := by simp [Nat.min_eq_left hc]
  refine AO.append (len := c) i _ _ hg d hd hN ho hs hy hi hsrc (by simpa using hc) ht hu hz hby hzero hzl (by rw [hl] at hbound; simpa using hbound) ?_ ?_ ?_ h
  · have := Nat.le_mul_of_pos_right (l.take c ++ m).length (show 0 < by' by omega)
    rw [hl] at this hbound
    simp only [List.length_map]; omega
  · rw [List.drop_zero, List.map_append, List.map_take]
  · rw [hl, List.length_map]

theorem Sim.ar_take {g : G} {z : Nat} : ∀ (k : Nat) {els : List AV} {l : List Value}, Sim g (.ar z els) l → Sim g (.ar z (els.take k)) (l.take (k * z))
  | 0, els, l, s => by simpa using Sim.arNil
  | k + 1, els, l, s => by
    cases s with
    | arNil => simpa using Sim.arNil
    | @arCons _ c cs l0 r a b d =>
      have ih := Sim.ar_take k d
      rw [List.take_succ_cons, show (k + 1) * z = l0.length + k * z by rw [b, Nat.add_mul]; omega, List.take_length_add_append]
      exact .arCons a b ih
theorem Sim.ar_drop {g : G} {z : Nat} : ∀ (k : Nat) {els : List AV} {l : List Value}, Sim g (.ar z els) l → Sim g (.ar z (els.drop k)) (l.drop (k * z))
  | 0, els, l, s => by simpa using s
  | k + 1, els, l, s => by
    cases s with
    | arNil => simpa using Sim.arNil
    | @arCons _ c cs l0 r a b d =>
      have ih := Sim.ar_drop k d
      rw [List.drop_succ_cons, show (k + 1) * z = l0.length + k * z by rw [b, Nat.add_mul]; omega, List.drop_length_add_append]
      exact ih
theorem fz_pre {F : Fr} {g : G} {H : Heap} {w : World} {z : Nat} {els : List AV} (h3 : WSat F g H w) {v : Value} (hv : Sim g (.fz z els) [v]) (k : Nat) (hk : k ≤ els.length) :
    ∃ (pre : List Value) (A : Option Addr) (cap : Nat), v = .slice A els.length cap ∧ Sim g (.ar z (els.take k)) pre ∧ (Builtin.firstCells z k v).run P w = .ok pre.toArray w := by
  cases hv with
  | @fz _ _ l b o cap sl hro hc =>
    have hcell : ∀ j u, (l.take (k * z))[j]? = some u → w.cell? ((⟨b, o, none⟩ : Addr).add j) = some u := fun j u hj => by
      rw [Addr.add_lit]
      have hj' : l[j]? = some u := by
        rw [List.getElem?_take] at hj
        split at hj
        · exact hj
        · cases hj
      exact h3.ro _ _ _ (hro j u hj')
    have hl : (l.take (k * z)).length = k * z := by rw [List.length_take, sl.ar_length]; exact Nat.min_eq_left (Nat.mul_le_mul_right _ hk)
    exact ⟨_, _, cap, rfl, sl.ar_take k, run_firstCells_some (P := P) w z k ⟨b, o, none⟩ els.length cap _ hl hcell⟩
  | @fz0 _ ad cap =>
    obtain rfl : k = 0 := by simpa using hk
    refine ⟨[], ad, cap, rfl, by simpa using Sim.arNil, ?_⟩
    cases ad <;> simp [Builtin.firstCells, loadCells, loadCellsFrom]
/-- A copy over the front of a row of our own. -/
def lcopy {α : Type} (l m : List α) : List α := m.take l.length ++ l.drop m.length
theorem lcopy_min {α : Type} (l m : List α) : lcopy l m = m.take (min m.length l.length) ++ l.drop (min m.length l.length) := by
  unfold lcopy
  rcases Nat.le_total m.length l.length with h | h
  · rw [Nat.min_eq_left h, List.take_of_length_le h, List.take_of_length_le (Nat.le_refl _)]
  · rw [Nat.min_eq_right h, List.drop_of_length_le h, List.drop_of_length_le (Nat.le_refl _)]
theorem lcopy_len {α : Type} (l m : List α) : (lcopy l m).length = l.length := by unfold lcopy; simp; omega
theorem lcopy_own {α : Type} {g : G} {n : Nat} {l m : List α} {v : Value} (h : V g (.own n 0 l.length) v) : V g (.own n 0 (lcopy l m).length) v := by rw [lcopy_len]; exact h
theorem AO.copyL {α : Type} {f : α → AV} {l m : List α} {T U E : TypeId} {s y : Operand} {z n : Nat} (i : Nat) (d : Nat) (hd : o.dst = some d) (hN : d < N) (hg : o.guard = none)
    (ho : o.op = .call { callee := .builtin .copy, args := #[s, y], argTypes := #[T, U] }) (hs : Env.ev ρ s = some (.own n 0 l.length)) (hy : Env.ev ρ y = some (.fz z (m.map f))) (hi : H[i]? = some (n, .mem (.ar z (l.map f))))
    (ht : P.underlying T = some (.slice E)) (hz : tySize P E = some z)
    (h : AO P N ops rest K ((d, .fl (.int .i64 ((min m.length l.length : Nat) : Int))) :: ρ) (H.set i (n, .mem (.ar z ((lcopy l m).map f))))) : AO P N ops (o :: rest) K ρ H :=
  AO.step hg d hd hN fun F g a w se h3 => by
    have e1 : Sim g (.own n 0 l.length) [a.eval s] := se.ev hs
    obtain ⟨pre, A, cap, e2, sp, e4⟩ := fz_pre (P := P) h3 (show Sim g (.fz z (m.map f)) [a.eval y] from se.ev hy) (min m.length l.length) (by rw [List.length_map]; exact Nat.min_le_left _ _)
    rw [List.length_map] at e2
    rw [e2] at e4
    have hpl : pre.length = min m.length l.length * z := by
      rw [sp.ar_length]; congr 1; simp [Nat.min_assoc]
    obtain ⟨p', q1, q2, q3⟩ := h3.obj n _ (List.mem_of_getElem? hi)
    simp only [tySize, Option.map_eq_some_iff] at hz
    obtain ⟨inf, hinf, hsz⟩ := hz
    have hmin : Nat.min m.length l.length = min m.length l.length := rfl
    generalize hv : a.eval s = v at e1
    generalize hL : l.length = L at e1
    cases e1 with
    | @own _ _ _ p b hn hb hlc =>
      subst hL
      obtain rfl : p' = p := Option.some.inj (q1.symm.trans hn)
      obtain ⟨hz', lc, sl, r⟩ := q2
      rcases r with ⟨b', c, T', e5, e6, e7, e8, e9⟩ | ⟨e5, _⟩
      · obtain rfl : b' = b := Option.some.inj (e5.symm.trans hb)
        have hlcl : lc.length = l.length * z := by rw [sl.ar_length, List.length_map]
        have hle : min m.length l.length * z ≤ l.length * z := Nat.mul_le_mul_right _ (Nat.min_le_right _ _)
        have hst := run_storeCells_at P b' p'.base T' pre 0 c w e6 (by rw [hpl]; omega) sp.one
        simp only [Nat.zero_mul, Nat.add_zero] at hst
        refine ⟨.int .i64 ((min m.length l.length : Nat) : Int), g, w.setRow b' (c.toList.take p'.base ++ pre ++ c.toList.drop (p'.base + pre.length)).toArray, .fl (.int .i64 ((min m.length l.length : Nat) : Int)), _, ?_, G.le.refl g, rfl,
          h3.set (p' := p') (m' := .mem (.ar z ((lcopy l m).map f))) hi hn (G.le.refl g) (fun _ _ => rfl) rfl rfl rfl (by simp) (fun k hk hne => setRow_other w b' k _ (fun e => hne (by rw [e5, e]))) hn ⟨fun z hz'' => hz' z hz'', pre ++ lc.drop (min m.length l.length * z), ?_, .inl ⟨b', _, T', e5, setRow_heap w b' c _ T' _ e6, ?_, ?_, ?_⟩⟩ (fun b hb' => .inl hb'), h⟩
        · have hbase : p'.base + 0 * p'.esz = p'.base := by simp
          rw [hbase] at hv
          simp only [execOp, ho, resolve, invoke, builtin]
          simp [hv, e2, Builtin.copy_, run_underlying ht, Builtin.lenOf, sizeOf, typeInfo, hinf, hsz, hmin, e4, hst, goInt]
        · rw [lcopy_min, List.map_append, List.map_take, List.map_drop]
          exact sp.append (sl.ar_drop _)
        · simp only [List.size_toArray, List.length_append, List.length_take, List.length_drop, Array.length_toList]; rw [hpl]; omega
        · simp only [List.size_toArray, List.length_append, List.length_take, List.length_drop, Array.length_toList]; rw [hpl]; omega
        · intro j u hj
          simp only [List.getElem?_toArray]
          rcases Nat.lt_or_ge j pre.length with hlt | hge
          · rw [List.getElem?_append_left hlt] at hj
            rw [List.append_assoc, List.getElem?_append_right (by simp; omega), List.getElem?_append_left (by simp; omega), ← hj]
            congr 1; simp; omega
          · rw [List.getElem?_append_right hge, List.getElem?_drop, hpl] at hj
            have := e9 _ _ hj
            rw [List.getElem?_append_right (by simp; omega), List.getElem?_drop]
            rw [← this, ← Array.getElem?_toList]
            congr 1; simp; omega
      · rw [e5] at hb; cases hb
    | @own0 _ _ p ad hn hb =>
      have hl0 : l = [] := List.eq_nil_of_length_eq_zero hL
      subst hl0
      have hp0 : pre = [] := List.eq_nil_of_length_eq_zero (by rw [hpl]; simp)
      subst hp0
      have hset : H.set i (n, .mem (.ar z ((lcopy [] m).map f))) = H := by
        rw [show lcopy ([] : List α) m = [] by simp [lcopy]]
        apply List.ext_getElem?
        intro j
        rw [List.getElem?_set]
        split
        · rename_i e; subst e; rw [hi, if_pos (List.getElem?_eq_some_iff.1 hi).1]
        · rfl
      refine ⟨.int .i64 ((min m.length 0 : Nat) : Int), g, w, .fl (.int .i64 ((min m.length 0 : Nat) : Int)), H, ?_, G.le.refl g, rfl, h3, by rw [← hset]; exact h⟩
      simp only [execOp, ho, resolve, invoke, builtin]
      simp at e4
      cases ad <;> simp [hv, e2, Builtin.copy_, run_underlying ht, Builtin.lenOf, sizeOf, typeInfo, hinf, hsz, e4, goInt, storeCells]
/-- What stands behind the first so many, as a row of its own; the whole is given up. -/
theorem AO.sufNew {α : Type} {f : α → AV} {l : List α} {T E : TypeId} {y : Operand} {lo : Option Operand} {z n : Nat} {b0 : Int} (i : Nat) (d : Nat) (hd : o.dst = some d) (hN : d < N) (hg : o.guard = none)
    (ho : o.op = .slice T y lo none none) (hy : Env.ev ρ y = some (.own n 0 l.length)) (hl : lowOf ρ lo = some b0) (hi : H[i]? = some (n, .mem (.ar z (l.map f)))) (hb : 0 ≤ b0 ∧ b0 ≤ (l.length : Int))
    (ht : P.underlying T = some (.slice E)) (hz : tySize P E = some z)
    (h : ∀ n', AO P N ops rest K ((d, .own n' 0 (l.drop b0.toNat).length) :: ρ) (H.set i (n', .mem (.ar z ((l.drop b0.toNat).map f))))) : AO P N ops (o :: rest) K ρ H :=
  AO.step hg d hd hN fun F g a w s h3 => by
    have e1 : Sim g (.own n 0 l.length) [a.eval y] := s.ev hy
    obtain ⟨p', q1, q2, q3⟩ := h3.obj n _ (List.mem_of_getElem? hi)
    have hez : z = p'.esz := q2.1 z rfl
    generalize hv : a.eval y = v at e1
    generalize hL : l.length = L at e1
    have hdl : (l.drop b0.toNat).length = L - b0.toNat := by rw [List.length_drop, hL]
    have none_case : ∀ ad, L = b0.toNat → (execOp a.eval o).run P w = .ok (.value (.slice ad 0 0)) w →
        ∃ v g' w' x' H', (execOp a.eval o).run P w = .ok (.value v) w' ∧ g.le g' ∧ V g' x' v ∧ WSat F g' H' w' ∧ AO P N ops rest K ((d, x') :: ρ) H' := by
      intro ad hLb hr
      have hnil : l.drop b0.toNat = [] := List.drop_of_length_le (by omega)
      refine ⟨.slice ad 0 0, { g with nm := g.nm ++ [⟨none, 0, 0, z⟩] }, w, _, _, hr, G.le.push g _, ?_, ?_, h g.nm.length⟩
      · rw [hdl, show L - b0.toNat = 0 by omega]
        exact (Sim.own0 (g := { g with nm := g.nm ++ [⟨none, 0, 0, z⟩] }) (n := g.nm.length) (p := ⟨none, 0, 0, z⟩) (off := 0) (by simp) (by simp) : Sim _ _ [_])
      · refine h3.set hi q1 (G.le.push g _) (fun _ _ => rfl) rfl rfl rfl (Nat.le_refl _) (fun k hk hne => rfl) (n' := g.nm.length) (p' := ⟨none, 0, 0, z⟩) (by simp) ?_ (fun b e => by cases e)
        rw [hnil]
        exact ⟨fun z' hz' => by cases hz'; rfl, [], Sim.arNil, .inr ⟨rfl, rfl, rfl, rfl⟩⟩
    cases e1 with
    | @own _ _ _ p b hn hb' hlc =>
      subst hL
      obtain rfl : p' = p := Option.some.inj (q1.symm.trans hn)
      have r := fun w => sliceBounds_run (P := P) (w := w) (isSlice := true) (n := l.length) (cap := p'.cap - 0) (h := (l.length : Int)) (hi := none) s hl rfl hb.1 hb.2 (by omega)
      by_cases hcl : p'.cap = b0.toNat
      · refine none_case (some ⟨b, p'.base + 0 * p'.esz, none⟩) (by omega) ?_
        have r2 := r w
        rw [Nat.sub_zero, hcl] at r2
        simp only [Option.map_none] at r2
        have e0 : l.length - b0.toNat = 0 := by omega
        simp [execOp, ho, hv, Instr.sliceAt, Instr.slice, run_underlying ht, r2, run_tySize hz, hcl, e0]
      · obtain ⟨hz', lc, sl, rr⟩ := q2
        rcases rr with ⟨b', c, T', e5, e6, e7, e8, e9⟩ | ⟨e5, _⟩
        · obtain rfl : b' = b := Option.some.inj (e5.symm.trans hb')
          have r2 := r w
          rw [Nat.sub_zero] at r2
          simp only [Option.map_none] at r2
          have hbc : b0.toNat ≤ p'.cap := by omega
          have hmul : (p'.cap - b0.toNat) * z = p'.cap * z - b0.toNat * z := Nat.sub_mul _ _ _
          have hmul2 : b0.toNat * z ≤ p'.cap * z := Nat.mul_le_mul_right _ hbc
          have hlcl : lc.length = l.length * z := by rw [sl.ar_length, List.length_map]
          have hmul3 : b0.toNat * z ≤ l.length * z := Nat.mul_le_mul_right _ (by omega)
          refine ⟨.slice (some ⟨b', p'.base + b0.toNat * z, none⟩) (l.length - b0.toNat) (p'.cap - b0.toNat), { g with nm := g.nm ++ [⟨some b', p'.base + b0.toNat * z, p'.cap - b0.toNat, z⟩] }, w, _, _, ?_, G.le.push g _, ?_, ?_, h g.nm.length⟩
          · simp [execOp, ho, hv, Instr.sliceAt, Instr.slice, run_underlying ht, r2, run_tySize hz, hcl, Addr.add_lit]
          · have := Sim.own (g := { g with nm := g.nm ++ [⟨some b', p'.base + b0.toNat * z, p'.cap - b0.toNat, z⟩] }) (n := g.nm.length) (off := 0) (len := l.length - b0.toNat) (p := ⟨some b', p'.base + b0.toNat * z, p'.cap - b0.toNat, z⟩) (by simp) rfl (by show 0 + (l.length - b0.toNat) ≤ p'.cap - b0.toNat; omega)
            rw [hdl]
            exact (by simpa using this : Sim _ _ [_])
          · refine h3.set hi hn (G.le.push g _) (fun _ _ => rfl) rfl rfl rfl (Nat.le_refl _) (fun k hk hne => rfl) (n' := g.nm.length) (p' := ⟨some b', p'.base + b0.toNat * z, p'.cap - b0.toNat, z⟩) (by simp) ?_ (fun b e => .inl (by cases e; exact hb'))
            rw [← hez] at e7
            refine ⟨fun z' hz'' => by cases hz''; rfl, lc.drop (b0.toNat * z), ?_, .inl ⟨b', c, T', rfl, e6, ?_, ?_, ?_⟩⟩
            · rw [List.map_drop]; exact (sl.ar_drop _).mono (G.le.push g _)
            · show p'.base + b0.toNat * z + (p'.cap - b0.toNat) * z ≤ c.size; omega
            · show p'.base + b0.toNat * z + (lc.drop (b0.toNat * z)).length ≤ c.size; rw [List.length_drop]; omega
            · intro j u hj
              rw [List.getElem?_drop] at hj
              have := e9 _ _ hj
              rw [← this]; congr 1
              show p'.base + b0.toNat * z + j = _; omega
        · rw [e5] at hb'; cases hb'
    | @own0 _ _ p ad hn hb' =>
      have hl0 : b0 = 0 := by omega
      subst hl0
      have r := fun w => sliceBounds_run (P := P) (w := w) (isSlice := true) (n := 0) (cap := 0) (h := 0) (hi := none) s hl rfl (by omega) (by omega) (by omega)
      refine none_case ad (by simp) ?_
      have r2 := r w
      simp only [Option.map_none] at r2
      simp [execOp, ho, hv, Instr.sliceAt, Instr.slice, run_underlying ht, r2, run_tySize hz]
theorem AO.makeRoom {α : Type} {f : α → AV} (a : α) {T E : TypeId} {y1 y2 : Operand} {k1 k2 : IntKind} {cp : Int} {z by' : Nat} {zl : List Value} (hg : o.guard = none) (d : Nat) (hd : o.dst = some d) (hN : d < N) (ho : o.op = .makeSlice T y1 y2) (hy1 : Env.ev ρ y1 = some (.fl (.int k1 0))) (hy2 : Env.ev ρ y2 = some (.fl (.int k2 cp)))
    (ht : P.underlying T = some (.slice E)) (hz : tySize P E = some z) (hby : tyBytes P E = some by') (hzero : tyZero P E = some zl) (hZ : ∀ g, Sim g (f a) zl) (hzl : zl.length = z) (h0 : 0 ≤ cp ∧ cp * by' ≤ 140737488355328 ∧ cp ≤ 9223372036854775807)
    (h : ∀ n, AO P N ops rest K ((d, .own n 0 ([] : List α).length) :: ρ) ((n, .mem (.ar z (([] : List α).map f))) :: H)) : AO P N ops (o :: rest) K ρ H := by
  refine AO.make (Z := f a) hg d hd hN ho hy1 hy2 ht hz hby hzero hzl hZ (Int.le_refl _) h0.1 (by have := h0.2.1; rw [Int.mul_comm] at this; omega) h0.2.2 fun n => ?_
  have := h n
  simpa using this
theorem own_len {g : G} {n a b : Nat} {v : Value} (e : a = b) (h : V g (.own n 0 a) v) : V g (.own n 0 b) v := e ▸ h
theorem own_lenS {g : G} {n a b : Nat} {v : Value} (e : a = b) (h : Sim g (.own n 0 a) [v]) : Sim g (.own n 0 b) [v] := e ▸ h
theorem vec_size {α : Type} {n z : Nat} (f : α → AV) (v : Vector α n) : (AV.ar z (v.toList.map f)).size = n * z := by simp [AV.size]
end
end Go.Avl
