/- What the printed proofs lean on beside the rules. -/
import Derived.Test.YthfongdjcpmpfaaAv12
namespace Go.Avl
open Go Go.RowKit
set_option linter.unusedVariables false

abbrev eI64 (n : Int) : AV := .fl (.int .i64 n)
abbrev eI32 (n : Int) : AV := .fl (.int .i32 n)
abbrev eU8 (n : Int) : AV := .fl (.int .u8 n)
abbrev eU64 (n : Int) : AV := .fl (.int .u64 n)
abbrev eBool (b : Bool) : AV := .fl (.bool b)
abbrev eStr (s : ByteArray) : AV := .fl (.string s)

/-- An element of a list; the default where there is none. -/
def lget {α : Type} [Inhabited α] (l : List α) (i : Int) : α := l.getD i.toNat default
def lset {α : Type} (l : List α) (i : Int) (x : α) : List α := l.set i.toNat x
def vget {α : Type} [Inhabited α] {n : Nat} (v : Vector α n) (i : Int) : α := v.toList.getD i.toNat default
def vset {α : Type} {n : Nat} (v : Vector α n) (i : Int) (x : α) : Vector α n := v.setIfInBounds i.toNat x
/-- A part of a list. -/
def lcut {α : Type} (l : List α) (i j : Int) : List α := (l.take j.toNat).drop i.toNat

theorem map_lget {α β : Type} [Inhabited α] (f : α → β) (l : List α) (i : Int) (h0 : 0 ≤ i) (h1 : i < (l.length : Int)) : (l.map f)[i.toNat]? = some (f (lget l i)) := by
  have : i.toNat < l.length := by omega
  simp [lget, this, List.getD]
theorem map_vget {α β : Type} [Inhabited α] {n : Nat} (f : α → β) (v : Vector α n) (i : Int) (h0 : 0 ≤ i) (h1 : i < (n : Int)) : (v.toList.map f)[i.toNat]? = some (f (vget v i)) := by
  have : i.toNat < n := by omega
  simp [vget, this, List.getD]
theorem map_vset {α β : Type} {n : Nat} (f : α → β) (v : Vector α n) (i : Int) (x : α) : (v.toList.map f).set i.toNat (f x) = (vset v i x).toList.map f := by
  simp [vset]
theorem map_lset {α β : Type} (f : α → β) (l : List α) (i : Int) (x : α) : (l.map f).set i.toNat (f x) = (lset l i x).map f := by
  simp [lset]
theorem map_lcut {α β : Type} (f : α → β) (l : List α) (i j : Int) : ((l.map f).take j.toNat).drop i.toNat = (lcut l i j).map f := by
  simp [lcut, List.map_drop, List.map_take]

theorem of_guard {α : Type} {c : Prop} [Decidable c] {x : Option α} {r : α} (h : (if c then x else none) = some r) : c ∧ x = some r := by
  split at h
  · exact ⟨‹_›, h⟩
  · cases h
theorem of_bind {α β : Type} {o : Option α} {f : α → Option β} {r : β} (h : o.bind f = some r) : ∃ t, o = some t ∧ f t = some r := Option.bind_eq_some_iff.1 h

section
variable {P : Program} {N : Nat} {ops : Array Oper} {o : Oper} {rest : List Oper} {K K' : Env → Heap → Prop} {ρ : Env} {H : Heap} {x : AV} {c c' : Code} {Q : Exit → Env → Heap → Prop}

theorem AO.mono (h : AO P N ops rest K ρ H) (hk : ∀ ρ H, K ρ H → K' ρ H) : AO P N ops rest K' ρ H :=
  fun F g a w Q h1 h2 h3 h4 => h F g a w Q h1 h2 h3 fun g' ρ' H' a' w' k1 k2 k3 k4 k5 k6 => h4 g' ρ' H' a' w' k1 k2 k3 k4 k5 (hk _ _ k6)
theorem AQ.mono {K K' : Env → Prop} (h : AQ P N ops rest K ρ H) (hk : ∀ ρ, K ρ → K' ρ) : AQ P N ops rest K' ρ H :=
  fun F g a w Q h1 h2 h3 h4 => h F g a w Q h1 h2 h3 fun ρ' a' k1 k2 k3 k6 => h4 ρ' a' k1 k2 k3 (hk _ k6)

theorem AW.regM {id : Nat} {l : List Oper} (ρ' : Env) (H' : Heap) (h : AO P N l.toArray l (fun ρ2 H2 => ρ2 = ρ' ∧ H2 = H') ρ H) (hk : Q .normal ρ' H') : AW P N (.region id l.toArray false) Q ρ H :=
  AW.reg (h.mono fun _ _ ⟨a, b⟩ => by subst a; subst b; exact hk)
theorem AW.regQM {id : Nat} {l : List Oper} (hm : P.follows .mixedOrders = true) (hB : Region.lexB .any l.toArray = true) (ρ' : Env) (h : AQ P N l.toArray l (fun ρ2 => ρ2 = ρ') ρ H) (hk : Q .normal ρ' H) : AW P N (.region id l.toArray true) Q ρ H :=
  AW.regQ hm hB (h.mono fun _ a => by subst a; exact hk)

theorem AW.condP {y : Operand} (p : Prop) [Decidable p] (hy : Env.ev ρ y = some (.fl (.bool (decide p)))) (hp : p) (h : AW P N c Q ρ H) : AW P N (.cond y c c') Q ρ H :=
  AW.cond _ hy (fun _ => h) (fun hb => absurd hp (of_decide_eq_false hb))
theorem AW.condN {y : Operand} (p : Prop) [Decidable p] (hy : Env.ev ρ y = some (.fl (.bool (decide p)))) (hp : ¬ p) (h : AW P N c' Q ρ H) : AW P N (.cond y c c') Q ρ H :=
  AW.cond _ hy (fun hb => absurd (of_decide_eq_true hb) hp) (fun _ => h)
theorem AW.condT' {y : Operand} (b : Bool) (hy : Env.ev ρ y = some (.fl (.bool b))) (hb : b = true) (h : AW P N c Q ρ H) : AW P N (.cond y c c') Q ρ H :=
  AW.cond b hy (fun _ => h) (fun h' => by rw [hb] at h'; cases h')
theorem AW.condF' {y : Operand} (b : Bool) (hy : Env.ev ρ y = some (.fl (.bool b))) (hb : ¬ b = true) (h : AW P N c' Q ρ H) : AW P N (.cond y c c') Q ρ H :=
  AW.cond b hy (fun h' => absurd h' hb) (fun _ => h)

theorem RetQ.mk {res : List ResultVar} {Q : AV → Heap → Prop} (xs : List AV) (h : Results P ρ H res xs) (hq : Q (single xs) H) : RetQ P res Q .ret ρ H := ⟨xs, h, hq⟩
theorem RetQ.mk' {res : List ResultVar} {Q : AV → Heap → Prop} (xs : List AV) (h : Results P ρ H res xs) (hq : Q (single xs) H) : RetQ P res Q .normal ρ H := ⟨xs, h, hq⟩

/-- A slot that a call reads as it stands at this moment. -/
def evsB (ρ : Env) (H : Heap) : List Operand → List AV → Prop
  | [], [] => True
  | y :: ys, x :: xs => (Env.ev ρ y = some x ∧ x.notTup = true ∨ ∃ n off len z els j, Env.ev ρ y = some (.own n off len) ∧ H[(j : Nat)]? = some (n, .mem (.ar z els)) ∧ off + len ≤ els.length ∧ x = .fz z ((els.drop off).take len)) ∧ evsB ρ H ys xs
  | _, _ => False

/-- All that lies in memory now. -/
def gNow (g : G) (w : World) : G := ⟨fun b o => w.cell? ⟨b, o, none⟩, g.nm⟩
theorem gNow_le {g : G} {w : World} (h : ∀ b o y, g.ro b o = some y → w.cell? ⟨b, o, none⟩ = some y) : g.le (gNow g w) := ⟨fun b o y hy => h b o y hy, fun _ _ h => h⟩

theorem evsB.all {F : Fr} {g : G} {a : Act} {w w' : World} (s : ESat g ρ a) (h3 : WSat F g H w) (hb : Below w.heap.size w w') : ∀ {ys : List Operand} {xs : List AV}, evsB ρ H ys xs → All2 (V1 (gNow g w')) xs (ys.map a.eval)
  | [], [], _ => .nil
  | y :: ys, x :: xs, h => by
    have h3' := h3.of_below hb
    refine .cons ?_ (evsB.all s h3 hb h.2)
    rcases h.1 with ⟨h1, h2⟩ | ⟨n, off, len, z, els, j, h1, h2, h4, rfl⟩
    · exact ((s.ev h1).toV1 h2).mono (gNow_le h3'.ro)
    · have hv : Sim g (.own n off len) [a.eval y] := s.ev h1
      generalize a.eval y = v at hv
      obtain ⟨p', q1, q2, q3⟩ := h3'.obj n _ (List.mem_of_getElem? h2)
      cases hv with
      | @own _ _ _ p b hn hb' hlc =>
        obtain rfl : p' = p := Option.some.inj (q1.symm.trans hn)
        obtain ⟨hz, l, sl, r⟩ := q2
        have hez : z = p'.esz := hz z rfl
        rcases r with ⟨b', c, T, e1, e2, e3, e4, e5⟩ | ⟨e1, _⟩
        · obtain rfl : b' = b := Option.some.inj (e1.symm.trans hb')
          obtain ⟨m, sm, hm⟩ := sl.ar_slice off (off + len)
          have heq : (els.take (off + len)).drop off = (els.drop off).take len := by rw [List.drop_take]; congr 1; omega
          rw [heq] at sm
          have hlen : ((els.drop off).take len).length = len := by simp; omega
          have := Sim.fz (g := gNow g w') (b := b') (o := p'.base + off * p'.esz) (cap := p'.cap - off) (sm.mono (gNow_le h3'.ro)) (fun j y hj => by
            show w'.cell? ⟨b', _, none⟩ = some y
            rw [cell_of_row w' b' _ c T (0, 0) e2]
            have := e5 _ _ (hm j y hj)
            rwa [show p'.base + (off * z + j) = p'.base + off * p'.esz + j by rw [hez]; omega] at this) (by omega)
          rw [hlen] at this; exact this
        · rw [e1] at hb'; cases hb'
      | @own0 _ _ _ ad _ _ => rw [List.take_zero]; exact Sim.fz0
  | [], _ :: _, h => h.elim
  | _ :: _, [], h => h.elim

/-- A call with one flat answer, over rows of our own as they stand. -/
theorem Calm.callB {fo : Operand} {as : List Operand} {A : Array TypeId} {f : FuncId} {args : List AV} {v : Value} (ho : o.op = .call { callee := .value fo, args := as.toArray, argTypes := A }) (hf : Env.ev ρ fo = some (.fl (.func (.func f) #[] #[])))
    (hok : FnOK P f) (ha : evsB ρ H as args) (hx : x.det = some v) (h : Spec P f args x) : Calm P o ρ H x := by
  intro F g a w s h3
  have hfo : a.eval fo = .func (.func f) #[] #[] := s.ev hf
  have hV : V g x v := by
    cases x with
    | fl u => cases hx; rfl
    | tup vs =>
      simp only [AV.det, Option.map_eq_some_iff] at hx
      obtain ⟨m, hm, rfl⟩ := hx
      refine ⟨m, rfl, ?_⟩
      clear h
      induction vs generalizing m with
      | nil => cases hm; exact .nil
      | cons y ys ih =>
        cases y with
        | fl u =>
          simp only [AV.flats, Option.map_eq_some_iff] at hm
          obtain ⟨m', hm', rfl⟩ := hm
          exact .cons rfl (ih m' hm')
        | _ => cases hm
    | _ => cases hx
  refine ⟨v, hV, fun w' hw => ?_⟩
  unfold Oper.quietAt
  rw [run_call ho hfo hok]
  refine ⟨rfl, (h (gNow g w') _ w' (ha.all s h3 hw) (fun b o y h => h)).mono ?_⟩
  rintro e w2 ⟨u, g', he, hg, hu, _, _, hb⟩
  exact ⟨by rw [he, AV.det_eq hx hu], hw.trans (hb.mono hw.size)⟩
end

theorem At.cast {x y : AV} {o o' : Nat} (h : At x o y) (e : o = o') : At x o' y := e ▸ h
theorem Put.cast {x y y' x' : AV} {o o' : Nat} (h : Put x o y y' x') (e : o = o') : Put x o' y y' x' := e ▸ h
end Go.Avl
