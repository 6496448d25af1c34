/- Opening of the arguments; printed by avlaw.py. -/
import Derived.Test.YthfongdjcpmpfaaAB
import Derived.Test.YthfongdjcpmpfaaAv15
namespace Go.Avl.T1
open Go Go.RowKit Go.Proofs Go.Avl
set_option linter.unusedVariables false
set_option maxRecDepth 100000
abbrev e22 (v : Vector Int 256) : AV := .ar 1 (v.toList.map eU8)
abbrev e23 (l : List (List Int)) : AV := .fz 1 (l.map e24)
abbrev e33 (v : Vector ByteArray 2) : AV := .ar 1 (v.toList.map eStr)
abbrev e55 (l : List S61) : AV := .fz 3 (l.map e61)
theorem sz33 : tySize Try.prog 33 = some 2 := by rfl
theorem ag33 : tyAgg Try.prog 33 = some true := by rfl
theorem ag55 : tyAgg Try.prog 55 = some false := by rfl
abbrev wf5 : Int → Prop := (fun n : Int => (Lit.int .u8 n).wf = true)
theorem op5 : Opens Try.prog 5 eU8 wf5 := opens_int Try.underlying5
abbrev wf22 : (Vector Int 256) → Prop := (fun l : Vector Int 256 => ∀ a ∈ l.toList, wf5 a)
theorem op22 : Opens Try.prog 22 e22 wf22 := opens_array Try.underlying22 sz5 sz22 op5
abbrev wf3 : Int → Prop := (fun n : Int => (Lit.int .i64 n).wf = true)
theorem op3 : Opens Try.prog 3 eI64 wf3 := opens_int Try.underlying3
abbrev wf24 : (List Int) → Prop := (fun l : List Int => l.length ≤ 9223372036854775807 ∧ ∀ a ∈ l, wf3 a)
theorem op24 : Opens Try.prog 24 e24 wf24 := opens_slice Try.underlying24 sz3 op3
abbrev wf23 : (List (List Int)) → Prop := (fun l : List (List Int) => l.length ≤ 9223372036854775807 ∧ ∀ a ∈ l, wf24 a)
theorem op23 : Opens Try.prog 23 e23 wf23 := opens_slice Try.underlying23 sz24 op24
abbrev wf26 : S26 → Prop := (fun x : S26 => wf22 x.f0 ∧ wf23 x.f1 ∧ wf24 x.f2)
theorem op26 : Opens Try.prog 26 e26 wf26 := (opens_struct Try.underlying26 sz26 (opensF_cons rfl sz22 (by decide) op22 (opensF_cons rfl sz23 (by decide) op23 (opensF_cons rfl sz24 (by decide) op24 (opensF_nil _))))).map (fun p => S26.mk p.1 p.2.1 p.2.2.1) (fun _ => rfl) (fun _ h => ⟨h.1, h.2.1, h.2.2.1⟩)
abbrev wf9 : ByteArray → Prop := (fun s : ByteArray => s.size ≤ 9223372036854775807)
theorem op9 : Opens Try.prog 9 eStr wf9 := opens_string Try.underlying9
abbrev wf33 : (Vector ByteArray 2) → Prop := (fun l : Vector ByteArray 2 => ∀ a ∈ l.toList, wf9 a)
theorem op33 : Opens Try.prog 33 e33 wf33 := opens_array Try.underlying33 sz9 sz33 op9
abbrev wf61 : S61 → Prop := (fun x : S61 => wf3 x.f0 ∧ wf9 x.f1 ∧ wf3 x.f2)
theorem op61 : Opens Try.prog 61 e61 wf61 := (opens_struct Try.underlying61 sz61 (opensF_cons rfl sz3 (by decide) op3 (opensF_cons rfl sz9 (by decide) op9 (opensF_cons rfl sz3 (by decide) op3 (opensF_nil _))))).map (fun p => S61.mk p.1 p.2.1 p.2.2.1) (fun _ => rfl) (fun _ h => ⟨h.1, h.2.1, h.2.2.1⟩)
abbrev wf55 : (List S61) → Prop := (fun l : List S61 => l.length ≤ 9223372036854775807 ∧ ∀ a ∈ l, wf61 a)
theorem op55 : Opens Try.prog 55 e55 wf55 := opens_slice Try.underlying55 sz61 op61
end Go.Avl.T1
