/- Rows made at once; texts appended. -/
import Derived.Test.YthfongdjcpmpfaaAv9
namespace Go.Avl
open Go Go.RowKit
set_option linter.unusedVariables false

section
variable {P : Program} {N : Nat} {ops : Array Oper} {o : Oper} {rest : List Oper} {K : Env → Heap → Prop} {ρ : Env} {H : Heap} {x : AV} {c : Code} {Q : Exit → Env → Heap → Prop}

/-! ### make -/
theorem AO.make {T E : TypeId} {y1 y2 : Operand} {k1 k2 : IntKind} {l cp : Int} {z by' : Nat} {zl : List Value} {Z : AV} (hg : o.guard = none) (d : Nat) (hd : o.dst = some d) (hN : d < N) (ho : o.op = .makeSlice T y1 y2) (hy1 : Env.ev ρ y1 = some (.fl (.int k1 l))) (hy2 : Env.ev ρ y2 = some (.fl (.int k2 cp)))
    (ht : P.underlying T = some (.slice E)) (hz : tySize P E = some z) (hby : tyBytes P E = some by') (hzero : tyZero P E = some zl) (hzl : zl.length = z) (hZ : ∀ g, Sim g Z zl) (h0 : 0 ≤ l) (h1 : l ≤ cp) (hb : (by' : Int) * cp ≤ 281474976710656) (h63 : cp ≤ 9223372036854775807)
    (h : ∀ n, AO P N ops rest K ((d, .own n 0 l.toNat) :: ρ) ((n, .mem (.ar z (List.replicate l.toNat Z))) :: H)) : AO P N ops (o :: rest) K ρ H :=
  AO.step hg d hd hN fun F g a w s h3 => by
    have e1 : a.eval y1 = .int k1 l := s.ev hy1
    have e2 : a.eval y2 = .int k2 cp := s.ev hy2
    simp only [tySize, Option.map_eq_some_iff] at hz
    obtain ⟨inf, hinf, hsz⟩ := hz
    simp only [tyBytes, hinf, Option.map_some, Option.some.injEq] at hby
    simp only [tyZero, hinf, Option.bind_some, Option.map_eq_some_iff] at hzero
    obtain ⟨zv, hzv, hzc⟩ := hzero
    have hr := run_make (P := P) w T E inf zv ht hinf hzv k1 k2 l cp h0 h1 (by rw [hby]; exact hb) h63
    have hrep : ∀ k, Sim g (.ar z (List.replicate k Z)) (List.replicate k zl).flatten := by
      intro k
      induction k with
      | zero => exact Sim.arNil
      | succ k ih => simpa [List.replicate_succ] using Sim.arCons (hZ g) hzl ih
    have hb' : Below w.heap.size w (w.alloc (.cells (madeCells zv.cells (cp.toNat * inf.size)) E)) := (Below.refl _ _).alloc (Nat.le_refl _) _
    have hcell : ∀ (j : Nat) y, (List.replicate l.toNat zl).flatten[j]? = some y → (madeCells zv.cells (cp.toNat * inf.size))[j]? = some y := by
      intro j y hj
      have hfl : (List.replicate l.toNat zl).flatten.length = l.toNat * z := by simp [hzl]
      have hjl : j < l.toNat * z := by rw [← hfl]; exact (List.getElem?_eq_some_iff.1 hj).1
      have hz0 : 0 < z := Nat.pos_of_ne_zero fun e => by rw [e] at hjl; simp at hjl
      have hjm : j % z < z := Nat.mod_lt _ hz0
      have e2 : ∀ (k j : Nat), j < k * z → (List.replicate k zl).flatten[j]? = zl[j % z]? := by
        intro k
        induction k with
        | zero => intro j h; simp at h
        | succ k ih =>
          intro j h
          rw [List.replicate_succ, List.flatten_cons]
          rcases Nat.lt_or_ge j z with h' | h'
          · rw [List.getElem?_append_left (by omega), Nat.mod_eq_of_lt h']
          · rw [List.getElem?_append_right (by omega), hzl, ih (j - z) (by rw [Nat.add_mul] at h; omega), Nat.mod_eq_sub_mod h']
      have hjc : j < cp.toNat * inf.size := by rw [hsz]; exact Nat.lt_of_lt_of_le hjl (Nat.mul_le_mul_right _ (by omega))
      have hzcs : zv.cells.size = z := by rw [← hzl, ← hzc]; simp
      have h5 : zl[j % z]? = some y := by rw [← e2 _ _ hjl]; exact hj
      have h6 : zv.cells[j % z]? = some y := by rw [← hzc] at h5; simpa using h5
      have h7 : zv.cells[j % zv.cells.size]! = y := by
        rw [hzcs, getElem!_pos _ _ (by rw [hzcs]; exact hjm)]
        exact (Array.getElem?_eq_some_iff.1 h6).2
      simp [madeCells, hjc, h7]
    refine ⟨.slice (some ⟨w.heap.size, 0, none⟩) l.toNat cp.toNat, { g with nm := g.nm ++ [⟨some w.heap.size, 0, cp.toNat, (AV.ar z (List.replicate l.toNat Z)).arz.getD 1⟩] }, _, _, _, ?_, G.le.push g _, ?_, h3.new hb' (hrep l.toNat) (Nat.le_refl _) (heap_alloc_new w _) (cap := cp.toNat) (by simp [AV.arz, size_madeCells, hsz]) hcell, h _⟩
    · simp [execOp, ho, e1, e2, hr]
    · have := Sim.own (g := { g with nm := g.nm ++ [⟨some w.heap.size, 0, cp.toNat, (AV.ar z (List.replicate l.toNat Z)).arz.getD 1⟩] }) (n := g.nm.length) (off := 0) (len := l.toNat) (p := ⟨some w.heap.size, 0, cp.toNat, z⟩) (by simp [AV.arz]) rfl (by simp; omega)
      exact (by simpa using this : Sim _ _ [_])

end
end Go.Avl
