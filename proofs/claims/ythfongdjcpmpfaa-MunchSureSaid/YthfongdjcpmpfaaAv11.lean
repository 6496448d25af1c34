/- Texts appended. -/
import Derived.Test.YthfongdjcpmpfaaAv10
namespace Go.Avl
open Go Go.RowKit
set_option linter.unusedVariables false

section
variable {P : Program} {N : Nat} {ops : Array Oper} {o : Oper} {rest : List Oper} {K : Env → Heap → Prop} {ρ : Env} {H : Heap} {x : AV} {c : Code} {Q : Exit → Env → Heap → Prop}
/-- A text's bytes appended. -/
theorem AO.appendStr {T U E : TypeId} {s y : Operand} {by' n off len : Nat} {els : List AV} {str : ByteArray} {zl : List Value} (i : Nat) (els' : List AV) (len' : Nat) (hg : o.guard = none) (d : Nat) (hd : o.dst = some d) (hN : d < N)
    (ho : o.op = .call { callee := .builtin .append, args := #[s, y], argTypes := #[T, U] }) (hs : Env.ev ρ s = some (.own n off len)) (hy : Env.ev ρ y = some (.fl (.string str))) (hi : H[i]? = some (n, .mem (.ar 1 els))) (hle : off + len ≤ els.length)
    (ht : P.underlying T = some (.slice E)) (hu : P.underlying U = some .string) (hz : tySize P E = some 1) (hby : tyBytes P E = some by') (hzero : tyZero P E = some zl) (hzl : zl.length = 1)
    (hbound : (len + str.size) * by' ≤ 140737488355328) (h63 : len + str.size ≤ 9223372036854775807) (hc : (els.drop off).take len ++ bytesAV (str.data.toList.map fun b => (b.toNat : Int)) = els') (hl' : len + str.size = len')
    (h : ∀ n', AO P N ops rest K ((d, .own n' 0 len') :: ρ) (H.set i (n', .mem (.ar 1 els')))) : AO P N ops (o :: rest) K ρ H :=
  AO.step hg d hd hN fun F g a w se h3 => by
    have ey : a.eval y = .string str := se.ev hy
    have hlen : (bytesAV (str.data.toList.map fun b => (b.toNat : Int))).length = str.size := by simp [bytesAV]
    have hsim : ∀ xs : List Int, Sim g (.ar 1 (bytesAV xs)) (xs.map (Value.int .u8)) := by
      intro xs
      induction xs with
      | nil => exact Sim.arNil
      | cons x xs ih => exact Sim.arCons (l := [Value.int .u8 x]) (Sim.fl rfl) rfl ih
    obtain ⟨v, g', w', k1, k2, k3, k4⟩ := append_core (P := P) (ty := o.type) (ys := bytesAV (str.data.toList.map fun b => (b.toNat : Int))) (xv := .string str) h3 hi (se.ev hs) hle (fun w' _ => by rw [hlen]; rfl) (hsim _) (fun w' _ => by
      rw [hlen]
      have : str.extract 0 str.size = str := by apply ByteArray.ext; simp
      simp [Builtin.firstCells, this, Function.comp_def]
      apply Array.ext'
      simp) ht hu (.inl rfl) hz hby hzero hzl (by rw [hlen]; exact hbound) (by rw [hlen]; exact h63) hc
    subst hl'
    rw [hlen] at k3
    refine ⟨v, g', w', _, _, ?_, k2, k3, k4, h _⟩
    simp [execOp, ho, resolve, invoke, builtin, ey, k1]
end
end Go.Avl
