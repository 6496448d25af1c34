/- From what the arguments read as to trees over memory that is only read. -/
import Derived.Test.YthfongdjcpmpfaaAv11
import Derived.Carry
import Derived.ChangeShapes
import Derived.ChangeMaps
import Derived.ChangeArms
namespace Go.Avl
open Go Go.RowKit
set_option linter.unusedVariables false

/-- All memory that is there is only read. -/
def g0 (W : World) : G := ⟨fun b o => W.cell? ⟨b, o, none⟩, []⟩
theorem g0_ok (W : World) : ∀ b o y, (g0 W).ro b o = some y → W.cell? ⟨b, o, none⟩ = some y := fun _ _ _ h => h

/-- What can be read at a type is a tree of this form. -/
def Opens (P : Program) (t : TypeId) {α : Type} (x : α → AV) (wf : α → Prop) : Prop :=
  ∀ (H : Type) (enc : TypeId × Value → H) (W : World) (base : Nat) (spare : Nat → Bool) (held : Bool) (fuel : Nat) (cs : List Value) (y : DataW H × List MemPlace),
    DataW.trod enc P W base spare held fuel t cs = some y → ∃ a : α, Sim (g0 W) (x a) cs ∧ wf a

theorem cellsOf_eq {P : Program} {t : TypeId} {z : Nat} (h : tySize P t = some z) : P.cellsOf t = z := by
  have : P.cellsOf t = (tySize P t).getD 0 := rfl
  rw [this, h]; rfl

section
variable {P : Program} {t : TypeId}

theorem Opens.map {α β : Type} {x : α → AV} {y : β → AV} {wf : α → Prop} {wf' : β → Prop} (h : Opens P t x wf) (f : α → β) (hf : ∀ a, y (f a) = x a) (hw : ∀ a, wf a → wf' (f a)) : Opens P t y wf' :=
  fun H enc W base spare held fuel cs d hd => let ⟨a, h1, h2⟩ := h H enc W base spare held fuel cs d hd; ⟨f a, by rw [hf]; exact h1, hw a h2⟩

theorem opens_int {k : IntKind} (ht : P.underlying t = some (.int k)) : Opens P t (fun n : Int => .fl (.int k n)) (fun n => (Lit.int k n).wf = true) := by
  intro H enc W base spare held fuel cs y hd
  obtain ⟨n, rfl, _, hw⟩ := DataW.trod_int ht hd
  exact ⟨n, Sim.fl rfl, hw⟩
theorem opens_bool (ht : P.underlying t = some .bool) : Opens P t (fun b : Bool => .fl (.bool b)) (fun _ => True) := by
  intro H enc W base spare held fuel cs y hd
  obtain ⟨b, rfl, _⟩ := DataW.trod_bool ht hd
  exact ⟨b, Sim.fl rfl, trivial⟩
theorem opens_string (ht : P.underlying t = some .string) : Opens P t (fun s : ByteArray => .fl (.string s)) (fun s => s.size ≤ 9223372036854775807) := by
  intro H enc W base spare held fuel cs y hd
  obtain ⟨s, rfl, _, hs⟩ := DataW.trod_string ht hd
  exact ⟨s, Sim.fl rfl, by simpa [maxLen] using hs⟩

theorem opens_slice {e : TypeId} {α : Type} {x : α → AV} {wf : α → Prop} {z : Nat} (ht : P.underlying t = some (.slice e)) (hz : tySize P e = some (z + 1)) (he : Opens P e x wf) :
    Opens P t (fun l : List α => .fz (z + 1) (l.map x)) (fun l => l.length ≤ 9223372036854775807 ∧ ∀ a ∈ l, wf a) := by
  intro H enc W base spare held fuel cs y hd
  rcases DataW.trod_slice ht hd with ⟨rfl, _⟩ | ⟨⟨b, off, sp⟩, len, cap, elems, rest, n, rfl, rfl, _, _, hlc, hcm, hlen, hel, _⟩
  · exact ⟨[], Sim.fz0, by simp⟩
  · rw [cellsOf_eq hz] at hel
    by_cases h0 : len = 0
    · subst h0; exact ⟨[], Sim.fz0, by simp⟩
    have hel1 : ∀ i, i < len → ∃ a ci, wf a ∧ Sim (g0 W) (x a) ci ∧ ci.length = z + 1 ∧ ∀ j, j < z + 1 → W.cell? (((⟨b, off, sp⟩ : Addr).add (i * (z + 1))).add j) = ci[j]? := by
      intro i hi
      have h1 := hel i hi
      have h2 : elems[i]? = some elems[i] := List.getElem?_eq_getElem (by omega)
      rw [h2, Option.bind_eq_some_iff] at h1
      obtain ⟨ci, hci, htr⟩ := h1
      obtain ⟨a, ha1, ha2⟩ := he H enc W base spare held n ci _ htr
      obtain ⟨_, k1, k2⟩ := World.cells?_some hci
      exact ⟨a, ci, ha2, ha1, k1, k2⟩
    have hsp : sp = none := by
      obtain ⟨a, ci, _, _, k1, k2⟩ := hel1 0 (by omega)
      have := k2 0 (by omega)
      rw [List.getElem?_eq_getElem (by omega)] at this
      cases sp with
      | none => rfl
      | some q => simp [World.cell?, Addr.add] at this; split at this <;> cases this
    subst hsp
    have hel2 : ∀ i, i < len → ∃ a ci, wf a ∧ Sim (g0 W) (x a) ci ∧ ci.length = z + 1 ∧ ∀ (j : Nat) y, ci[j]? = some y → (g0 W).ro b (off + (i * (z + 1) + j)) = some y := by
      intro i hi
      obtain ⟨a, ci, h1, h2, h3, h4⟩ := hel1 i hi
      refine ⟨a, ci, h1, h2, h3, fun j y hy => ?_⟩
      have hj : j < ci.length := (List.getElem?_eq_some_iff.1 hy).1
      have := h4 j (by omega)
      rw [Addr.add_lit, Addr.add_lit, hy] at this
      show W.cell? _ = _
      rw [← this, Nat.add_assoc]
    have key : ∀ k, k ≤ len → ∃ (l : List α) (m : List Value), l.length = k ∧ (∀ a ∈ l, wf a) ∧ Sim (g0 W) (.ar (z + 1) (l.map x)) m ∧ ∀ (j : Nat) y, m[j]? = some y → (g0 W).ro b (off + j) = some y := by
      intro k
      induction k with
      | zero => intro _; exact ⟨[], [], rfl, by simp, Sim.arNil, by simp⟩
      | succ k ih =>
        intro hk
        obtain ⟨l, m, h1, h2, h3, h4⟩ := ih (by omega)
        obtain ⟨a, ci, k1, k2, k3, k4⟩ := hel2 k (by omega)
        have hml : m.length = k * (z + 1) := by rw [h3.ar_length]; simp [h1]
        have hone : Sim (g0 W) (.ar (z + 1) [x a]) ci := by simpa using Sim.arCons k2 k3 Sim.arNil
        refine ⟨l ++ [a], m ++ ci, by simp [h1], ?_, by simpa using h3.append hone, fun j y hy => ?_⟩
        · intro c hc
          rcases List.mem_append.1 hc with h | h
          · exact h2 c h
          · simp at h; subst h; exact k1
        · rcases Nat.lt_or_ge j m.length with hlt | hge
          · rw [List.getElem?_append_left hlt] at hy; exact h4 j y hy
          · rw [List.getElem?_append_right hge] at hy
            have := k4 _ y hy
            rwa [show off + (k * (z + 1) + (j - m.length)) = off + j by omega] at this
    obtain ⟨l, m, h1, h2, h3, h4⟩ := key len (Nat.le_refl _)
    refine ⟨l, ?_, by rw [h1]; simp [maxLen] at hcm; omega, h2⟩
    have := Sim.fz (cap := cap) h3 h4 (by simpa [h1] using hlc)
    simpa [h1] using this

theorem opens_array {e : TypeId} {α : Type} {x : α → AV} {wf : α → Prop} {n z : Nat} (ht : P.underlying t = some (.array n e)) (hz : tySize P e = some z) (htz : tySize P t = some (n * z)) (he : Opens P e x wf) :
    Opens P t (fun l : Vector α n => .ar z (l.toList.map x)) (fun l => ∀ a ∈ l.toList, wf a) := by
  intro H enc W base spare held fuel cs y hd
  cases fuel with
  | zero => cases hd
  | succ fuel =>
    unfold DataW.trod at hd
    rw [ht] at hd
    simp only at hd
    split at hd
    · rename_i hl
      rw [cellsOf_eq htz] at hl
      rw [cellsOf_eq hz] at hd
      simp only [Option.map_eq_some_iff] at hd
      obtain ⟨xs, hxs, _⟩ := hd
      have hlen : xs.length = n := by simpa using mapM_some_length hxs
      have hget : ∀ i, i < n → ∃ a, wf a ∧ Sim (g0 W) (x a) ((cs.drop (i * z)).take z) := by
        intro i hi
        have h1 := mapM_some_get hxs i i (by simp [hi])
        rw [List.getElem?_eq_getElem (by omega)] at h1
        obtain ⟨a, ha1, ha2⟩ := he H enc W base spare held fuel _ _ h1
        exact ⟨a, ha2, ha1⟩
      have key : ∀ k, k ≤ n → ∃ l : List α, l.length = k ∧ (∀ a ∈ l, wf a) ∧ Sim (g0 W) (.ar z (l.map x)) (cs.take (k * z)) := by
        intro k
        induction k with
        | zero => intro _; exact ⟨[], rfl, by simp, by simpa using Sim.arNil⟩
        | succ k ih =>
          intro hk
          obtain ⟨l, h1, h2, h3⟩ := ih (by omega)
          obtain ⟨a, k1, k2⟩ := hget k (by omega)
          have hbound : (k + 1) * z ≤ n * z := Nat.mul_le_mul_right _ hk
          have hone : Sim (g0 W) (.ar z [x a]) ((cs.drop (k * z)).take z) := by
            have := Sim.arCons k2 (by simp; rw [Nat.add_mul] at hbound; omega) (Sim.arNil (z := z))
            simpa using this
          refine ⟨l ++ [a], by simp [h1], ?_, ?_⟩
          · intro c hc
            rcases List.mem_append.1 hc with h | h
            · exact h2 c h
            · simp at h; subst h; exact k1
          · have := h3.append hone
            rw [← List.take_add] at this
            rw [Nat.add_mul, Nat.one_mul]
            simpa using this
      obtain ⟨l, h1, h2, h3⟩ := key n (Nat.le_refl _)
      refine ⟨⟨l.toArray, by simp [h1]⟩, ?_, by simpa using h2⟩
      rw [List.take_of_length_le (by omega)] at h3
      simpa using h3
    · cases hd

/-- A struct's fields, one behind the other. -/
def OpensF (P : Program) (off total : Nat) (fs : List Field) {β : Type} (x : β → List (Nat × AV)) (wf : β → Prop) : Prop :=
  ∀ (H : Type) (enc : TypeId × Value → H) (W : World) (base : Nat) (spare : Nat → Bool) (held : Bool) (fuel : Nat) (cs : List Value), cs.length = total →
    (∀ (i : Nat) (f : Field), fs[i]? = some f → ∃ y, DataW.trod enc P W base spare held fuel f.type ((cs.drop f.offset).take (P.cellsOf f.type)) = some y) → ∃ b : β, Sim (g0 W) (.st (x b)) (cs.drop off) ∧ wf b

theorem opensF_nil (n : Nat) : OpensF P n n [] (fun _ : Unit => []) (fun _ => True) := by
  intro H enc W base spare held fuel cs hl _
  exact ⟨(), by rw [List.drop_of_length_le (by omega)]; exact Sim.stNil, trivial⟩
theorem opensF_cons {off total k : Nat} {f : Field} {fs : List Field} {α β : Type} {x : α → AV} {wf : α → Prop} {y : β → List (Nat × AV)} {wf' : β → Prop} (hf : f.offset = off) (hk : tySize P f.type = some k) (hle : off + k ≤ total)
    (h : Opens P f.type x wf) (hr : OpensF P (off + k) total fs y wf') : OpensF P off total (f :: fs) (fun p : α × β => (k, x p.1) :: y p.2) (fun p => wf p.1 ∧ wf' p.2) := by
  intro H enc W base spare held fuel cs hl ha
  obtain ⟨y0, h0⟩ := ha 0 f rfl
  rw [hf, cellsOf_eq hk] at h0
  obtain ⟨a, ha1, ha2⟩ := h H enc W base spare held fuel _ _ h0
  obtain ⟨b, hb1, hb2⟩ := hr H enc W base spare held fuel cs hl (fun i g hg => ha (i + 1) g (by simpa using hg))
  refine ⟨(a, b), ?_, ha2, hb2⟩
  have := Sim.stCons (k := k) ha1 (by simp; omega) hb1
  rwa [show (cs.drop off).take k ++ cs.drop (off + k) = cs.drop off by rw [← List.drop_drop, List.take_append_drop]] at this
theorem opens_struct {fs : List Field} {n : Nat} {β : Type} {y : β → List (Nat × AV)} {wf : β → Prop} (ht : P.underlying t = some (.struct fs.toArray)) (hz : tySize P t = some n) (h : OpensF P 0 n fs y wf) : Opens P t (fun b : β => .st (y b)) wf := by
  intro H enc W base spare held fuel cs d hd
  obtain ⟨xs, m, rfl, _, hl, hxl, hx⟩ := DataW.trod_struct ht hd
  rw [cellsOf_eq hz] at hl
  obtain ⟨b, h1, h2⟩ := h H enc W base spare held m cs hl (fun i f hf => by
    have := hx i f (by simpa using hf)
    have hi : i < fs.length := (List.getElem?_eq_some_iff.1 hf).1
    rw [List.getElem?_eq_getElem (by simp at hxl; omega)] at this
    exact ⟨_, this⟩)
  exact ⟨b, by simpa using h1, h2⟩

/-- An argument. -/
theorem Opens.arg {α : Type} {x : α → AV} {wf : α → Prop} (h : Opens P t x wf) (hagg : ∀ a, tyAgg P t = some (x a).isAgg) {r : Reach} {b0 base : Nat} {W : World} {H : Type} {enc : TypeId × Value → H} {spare : Nat → Bool} {held : Bool} {v : Value} {d : DataW H} {ps : List MemPlace}
    (hval : Value.okWide P W r b0 t v) (hd : DataW.Trod enc P W base spare held t v d ps) : ∃ a : α, V1 (g0 W) (x a) v ∧ wf a := by
  obtain ⟨fuel, hd⟩ := hd
  obtain ⟨a, h1, h2⟩ := h H enc W base spare held fuel _ _ hd
  refine ⟨a, ?_, h2⟩
  have ha := hagg a
  simp only [tyAgg, Option.map_eq_some_iff] at ha
  obtain ⟨dsc, hu, hda⟩ := ha
  unfold Value.okWide at hval
  rw [hu] at hval
  cases hx : (x a).isAgg with
  | true =>
    rw [hx] at hda
    have : ∃ cs, v = .agg cs := by
      cases dsc <;> simp at hda
      · obtain ⟨cs, h, _⟩ := hval; exact ⟨cs, h⟩
      · obtain ⟨cs, h, _⟩ := hval; exact ⟨cs, h⟩
    obtain ⟨cs, rfl⟩ := this
    have := V1.of_sim_agg h1 hx
    simpa [Value.cells] using this
  | false =>
    obtain ⟨u, hc, hv, h1c⟩ := V1.of_sim_one h1 hx
    have : v = u := by
      cases v with
      | agg cs =>
        exfalso
        rw [hx] at hda
        cases dsc <;> simp [Cell.okWide, Cell.ok, hu] at hval hda
      | _ => simp [Value.cells] at hc; exact hc
    rw [this]; exact hv
end

/-- The call of a law that is true of whatever it reads. -/
theorem Spec.law {P : Program} {f : FuncId} {xs : List AV} {args : Array Value} {W : World} (h : Spec P f xs (.fl (.bool true))) (ha : All2 (V1 (g0 W)) xs args.toList) :
    Calls P f args W fun e W' => e = .returned (.bool true) ∧ Below W.heap.size W W' := by
  have := h (g0 W) args.toList W ha (g0_ok W)
  simp only [Array.toArray_toList] at this
  exact this.mono fun e w' ⟨v, g', he, _, hv, _, _, hb⟩ => ⟨by rw [he]; exact congrArg _ hv, hb⟩
end Go.Avl
