/-
  No cell of these rows narrows 'for every input' (looked for: loops, veiled, ifaces, maps, wideKeys, modest, calm, conditions, laid).
  DERIVED. THE GIVEN ROWS OF THIS SEAT. 9 by the template 'for every input the law returns true; each argument reads behind the call as it read before'; 0 by the template 'total and deterministic' (their statements: YtoaomnfenofglaaTotals.lean).
  GIVEN WITH THE SEED: the statements are not yours to turn. If you find one false, say at which input.
  Laid BY PROGRAM, IN A SANDBOX (cutbox-rows.mjs): the forced cells as the released guide's own fill.sh prints them over the translation 88c98be12bace341… (all of the seat's roots in one cut). By AI agents, Wed Nov 11 2026. No macro, syntax, notation, axiom, sorry.
-/
import Derived.Test.YtoaomnfenofglaaChecked
import GoSem.Claim
import GoSem.ClaimJoined
import GoSem.ClaimMapViews
import Derived.JoinedTies
import Derived.KernelRfl
namespace Go.Proofs.Ytoaomnfenofglaa
/- THE CELL 'sum', in the pinned program and in every row, IS THE sha256 OF THE DUMP (.gsa) THAT YtoaomnfenofglaaProg.lean LOADS. Nothing in Lean hashes anything: it is a label: what it is worth is what the hold of that sum in a sandbox is worth. -/
noncomputable def Try.pinned : Pinned := { name := "ytoaomnfenofglaa", sum := "88c98be12bace341f46cf6a4845ce89c37ebf85ae28dfcfc7789c60087c8e311", checked := Try.checked }
namespace Rows
def none {H : Type} : Left H := { results := [], args := [] }

/-- 'bosketlaw07.SubsetOf': WHATEVER THE INPUT: true; the input reads as it did. -/
def subsetOfSpec : ChangeSpec := { name := "subsetOf", fn := fun _ => fun
  | [d1, d2] => { results := [.lit (.bool true)], args := [d1, d2] }
  | _ => none }
def subsetOfRow : OpenClaim := { program := "ytoaomnfenofglaa", sum := "88c98be12bace341f46cf6a4845ce89c37ebf85ae28dfcfc7789c60087c8e311", func := "bosket/bosketlaw07.SubsetOf", spec := "subsetOf", plainKeys := false, apart := false }
def SubsetOfSaid : Prop := subsetOfRow.holds Try.pinned (OpenSpec.ofChange subsetOfSpec)

/-- ITS FALSE NEIGHBOUR: 'it returns false'. Refute it at one input. -/
def subsetOfWrong : ChangeSpec := { name := "subsetOf", fn := fun _ => fun
  | [d1, d2] => { results := [.lit (.bool false)], args := [d1, d2] }
  | _ => none }
def SubsetOfWrongFalsely : Prop := subsetOfRow.holds Try.pinned (OpenSpec.ofChange subsetOfWrong)

/-- 'bosketlaw07.SubsetRuns': WHATEVER THE INPUT: true; the input reads as it did. -/
def subsetRunsSpec : ChangeSpec := { name := "subsetRuns", fn := fun _ => fun
  | [d1, d2, d3] => { results := [.lit (.bool true)], args := [d1, d2, d3] }
  | _ => none }
def subsetRunsRow : OpenClaim := { program := "ytoaomnfenofglaa", sum := "88c98be12bace341f46cf6a4845ce89c37ebf85ae28dfcfc7789c60087c8e311", func := "bosket/bosketlaw07.SubsetRuns", spec := "subsetRuns", plainKeys := false, apart := false }
def SubsetRunsSaid : Prop := subsetRunsRow.holds Try.pinned (OpenSpec.ofChange subsetRunsSpec)

/-- ITS FALSE NEIGHBOUR: 'it returns false'. Refute it at one input. -/
def subsetRunsWrong : ChangeSpec := { name := "subsetRuns", fn := fun _ => fun
  | [d1, d2, d3] => { results := [.lit (.bool false)], args := [d1, d2, d3] }
  | _ => none }
def SubsetRunsWrongFalsely : Prop := subsetRunsRow.holds Try.pinned (OpenSpec.ofChange subsetRunsWrong)

/-- 'bosketlaw07.SubsetOne': WHATEVER THE INPUT: true; the input reads as it did. -/
def subsetOneSpec : ChangeSpec := { name := "subsetOne", fn := fun _ => fun
  | [d] => { results := [.lit (.bool true)], args := [d] }
  | _ => none }
def subsetOneRow : OpenClaim := { program := "ytoaomnfenofglaa", sum := "88c98be12bace341f46cf6a4845ce89c37ebf85ae28dfcfc7789c60087c8e311", func := "bosket/bosketlaw07.SubsetOne", spec := "subsetOne", plainKeys := false, apart := false }
def SubsetOneSaid : Prop := subsetOneRow.holds Try.pinned (OpenSpec.ofChange subsetOneSpec)

/-- ITS FALSE NEIGHBOUR: 'it returns false'. Refute it at one input. -/
def subsetOneWrong : ChangeSpec := { name := "subsetOne", fn := fun _ => fun
  | [d] => { results := [.lit (.bool false)], args := [d] }
  | _ => none }
def SubsetOneWrongFalsely : Prop := subsetOneRow.holds Try.pinned (OpenSpec.ofChange subsetOneWrong)

/-- 'bosketlaw15.FuseGaps': WHATEVER THE INPUT: true; the input reads as it did. -/
def fuseGapsSpec : ChangeSpec := { name := "fuseGaps", fn := fun _ => fun
  | [d1, d2, d3] => { results := [.lit (.bool true)], args := [d1, d2, d3] }
  | _ => none }
def fuseGapsRow : OpenClaim := { program := "ytoaomnfenofglaa", sum := "88c98be12bace341f46cf6a4845ce89c37ebf85ae28dfcfc7789c60087c8e311", func := "bosket/bosketlaw15.FuseGaps", spec := "fuseGaps", plainKeys := false, apart := false }
def FuseGapsSaid : Prop := fuseGapsRow.holds Try.pinned (OpenSpec.ofChange fuseGapsSpec)

/-- ITS FALSE NEIGHBOUR: 'it returns false'. Refute it at one input. -/
def fuseGapsWrong : ChangeSpec := { name := "fuseGaps", fn := fun _ => fun
  | [d1, d2, d3] => { results := [.lit (.bool false)], args := [d1, d2, d3] }
  | _ => none }
def FuseGapsWrongFalsely : Prop := fuseGapsRow.holds Try.pinned (OpenSpec.ofChange fuseGapsWrong)

/-- 'bosketlaw15.FuseNeeds': WHATEVER THE INPUT: true; the input reads as it did. -/
def fuseNeedsSpec : ChangeSpec := { name := "fuseNeeds", fn := fun _ => fun
  | [d1, d2, d3] => { results := [.lit (.bool true)], args := [d1, d2, d3] }
  | _ => none }
def fuseNeedsRow : OpenClaim := { program := "ytoaomnfenofglaa", sum := "88c98be12bace341f46cf6a4845ce89c37ebf85ae28dfcfc7789c60087c8e311", func := "bosket/bosketlaw15.FuseNeeds", spec := "fuseNeeds", plainKeys := false, apart := false }
def FuseNeedsSaid : Prop := fuseNeedsRow.holds Try.pinned (OpenSpec.ofChange fuseNeedsSpec)

/-- ITS FALSE NEIGHBOUR: 'it returns false'. Refute it at one input. -/
def fuseNeedsWrong : ChangeSpec := { name := "fuseNeeds", fn := fun _ => fun
  | [d1, d2, d3] => { results := [.lit (.bool false)], args := [d1, d2, d3] }
  | _ => none }
def FuseNeedsWrongFalsely : Prop := fuseNeedsRow.holds Try.pinned (OpenSpec.ofChange fuseNeedsWrong)

/-- 'bosketlaw09.MiniBlocks': WHATEVER THE INPUT: true; the input reads as it did. -/
def miniBlocksSpec : ChangeSpec := { name := "miniBlocks", fn := fun _ => fun
  | [d] => { results := [.lit (.bool true)], args := [d] }
  | _ => none }
def miniBlocksRow : OpenClaim := { program := "ytoaomnfenofglaa", sum := "88c98be12bace341f46cf6a4845ce89c37ebf85ae28dfcfc7789c60087c8e311", func := "bosket/bosketlaw09.MiniBlocks", spec := "miniBlocks", plainKeys := false, apart := false }
def MiniBlocksSaid : Prop := miniBlocksRow.holds Try.pinned (OpenSpec.ofChange miniBlocksSpec)

/-- ITS FALSE NEIGHBOUR: 'it returns false'. Refute it at one input. -/
def miniBlocksWrong : ChangeSpec := { name := "miniBlocks", fn := fun _ => fun
  | [d] => { results := [.lit (.bool false)], args := [d] }
  | _ => none }
def MiniBlocksWrongFalsely : Prop := miniBlocksRow.holds Try.pinned (OpenSpec.ofChange miniBlocksWrong)

/-- 'bosketlaw09.MiniLeast': WHATEVER THE INPUT: true; the input reads as it did. -/
def miniLeastSpec : ChangeSpec := { name := "miniLeast", fn := fun _ => fun
  | [d1, d2] => { results := [.lit (.bool true)], args := [d1, d2] }
  | _ => none }
def miniLeastRow : OpenClaim := { program := "ytoaomnfenofglaa", sum := "88c98be12bace341f46cf6a4845ce89c37ebf85ae28dfcfc7789c60087c8e311", func := "bosket/bosketlaw09.MiniLeast", spec := "miniLeast", plainKeys := false, apart := false }
def MiniLeastSaid : Prop := miniLeastRow.holds Try.pinned (OpenSpec.ofChange miniLeastSpec)

/-- ITS FALSE NEIGHBOUR: 'it returns false'. Refute it at one input. -/
def miniLeastWrong : ChangeSpec := { name := "miniLeast", fn := fun _ => fun
  | [d1, d2] => { results := [.lit (.bool false)], args := [d1, d2] }
  | _ => none }
def MiniLeastWrongFalsely : Prop := miniLeastRow.holds Try.pinned (OpenSpec.ofChange miniLeastWrong)

/-- 'bosketlaw09.MiniOne': WHATEVER THE INPUT: true; the input reads as it did. -/
def miniOneSpec : ChangeSpec := { name := "miniOne", fn := fun _ => fun
  | [d1, d2] => { results := [.lit (.bool true)], args := [d1, d2] }
  | _ => none }
def miniOneRow : OpenClaim := { program := "ytoaomnfenofglaa", sum := "88c98be12bace341f46cf6a4845ce89c37ebf85ae28dfcfc7789c60087c8e311", func := "bosket/bosketlaw09.MiniOne", spec := "miniOne", plainKeys := false, apart := false }
def MiniOneSaid : Prop := miniOneRow.holds Try.pinned (OpenSpec.ofChange miniOneSpec)

/-- ITS FALSE NEIGHBOUR: 'it returns false'. Refute it at one input. -/
def miniOneWrong : ChangeSpec := { name := "miniOne", fn := fun _ => fun
  | [d1, d2] => { results := [.lit (.bool false)], args := [d1, d2] }
  | _ => none }
def MiniOneWrongFalsely : Prop := miniOneRow.holds Try.pinned (OpenSpec.ofChange miniOneWrong)

/-- 'bosketlaw10.LangEqual': WHATEVER THE INPUT: true; the input reads as it did. -/
def langEqualSpec : ChangeSpec := { name := "langEqual", fn := fun _ => fun
  | [d1, d2, d3] => { results := [.lit (.bool true)], args := [d1, d2, d3] }
  | _ => none }
def langEqualRow : OpenClaim := { program := "ytoaomnfenofglaa", sum := "88c98be12bace341f46cf6a4845ce89c37ebf85ae28dfcfc7789c60087c8e311", func := "bosket/bosketlaw10.LangEqual", spec := "langEqual", plainKeys := false, apart := false }
def LangEqualSaid : Prop := langEqualRow.holds Try.pinned (OpenSpec.ofChange langEqualSpec)

/-- ITS FALSE NEIGHBOUR: 'it returns false'. Refute it at one input. -/
def langEqualWrong : ChangeSpec := { name := "langEqual", fn := fun _ => fun
  | [d1, d2, d3] => { results := [.lit (.bool false)], args := [d1, d2, d3] }
  | _ => none }
def LangEqualWrongFalsely : Prop := langEqualRow.holds Try.pinned (OpenSpec.ofChange langEqualWrong)

/- THE SECOND FORM. 'bulk': how many values and letters a reading holds, each counted each time it is reached (what is shared counts as often as it is met; a slice's spare places count too). A statement '..UptoSaid' is the law's where the arguments, and the package variables that the reading takes, are together of bulk at most 1048576: NARROWER than '..Said'. Prove '..Said' where nothing that the law and all that it calls make is longer than what came in: it says more and counts as full. Else prove '..UptoSaid'. A law counts once. -/
mutual
def uptoBulk {H : Type} : DataW H → Nat
  | .lit (.string bytes) => bytes.length + 1
  | .lit _ => 1
  | .nil => 1
  | .ptr d => uptoBulk d + 1
  | .slice elems spare => uptoBulkAll elems + uptoBulkAll spare + 1
  | .agg parts => uptoBulkAll parts + 1
  | .iface _ d => uptoBulk d + 1
  | .map entries => uptoBulkEntries entries + 1
  | .held _ => 1
def uptoBulkAll {H : Type} : List (DataW H) → Nat
  | [] => 0
  | d :: r => uptoBulk d + uptoBulkAll r
def uptoBulkEntries {H : Type} : List (Lit × DataW H) → Nat
  | [] => 0
  | x :: r => uptoBulkEntry x + uptoBulkEntries r
def uptoBulkEntry {H : Type} : Lit × DataW H → Nat
  | (.string bytes, d) => bytes.length + uptoBulk d + 1
  | (_, d) => uptoBulk d + 1
 end
def uptoSmall : (H : Type) → List (DataW H) → Bool := fun _ ds => decide (uptoBulkAll ds ≤ 1048576)
def OpenSpec.upto (s : _root_.Go.ChangeSpec) : _root_.Go.OpenSpec := { _root_.Go.OpenSpec.ofChange s with cond := some uptoSmall }

/-- 'bosketlaw07.SubsetOf', WHERE WHAT IT READS IS OF BULK AT MOST 1048576: true; the input reads as it did. -/
def subsetOfUptoRow : OpenClaim := { program := "ytoaomnfenofglaa", sum := "88c98be12bace341f46cf6a4845ce89c37ebf85ae28dfcfc7789c60087c8e311", func := "bosket/bosketlaw07.SubsetOf", spec := "subsetOf", plainKeys := false, apart := false, narrowed := true }
def SubsetOfUptoSaid : Prop := subsetOfUptoRow.holds Try.pinned (OpenSpec.upto subsetOfSpec)

/-- 'bosketlaw07.SubsetRuns', WHERE WHAT IT READS IS OF BULK AT MOST 1048576: true; the input reads as it did. -/
def subsetRunsUptoRow : OpenClaim := { program := "ytoaomnfenofglaa", sum := "88c98be12bace341f46cf6a4845ce89c37ebf85ae28dfcfc7789c60087c8e311", func := "bosket/bosketlaw07.SubsetRuns", spec := "subsetRuns", plainKeys := false, apart := false, narrowed := true }
def SubsetRunsUptoSaid : Prop := subsetRunsUptoRow.holds Try.pinned (OpenSpec.upto subsetRunsSpec)

/-- 'bosketlaw07.SubsetOne', WHERE WHAT IT READS IS OF BULK AT MOST 1048576: true; the input reads as it did. -/
def subsetOneUptoRow : OpenClaim := { program := "ytoaomnfenofglaa", sum := "88c98be12bace341f46cf6a4845ce89c37ebf85ae28dfcfc7789c60087c8e311", func := "bosket/bosketlaw07.SubsetOne", spec := "subsetOne", plainKeys := false, apart := false, narrowed := true }
def SubsetOneUptoSaid : Prop := subsetOneUptoRow.holds Try.pinned (OpenSpec.upto subsetOneSpec)

/-- 'bosketlaw15.FuseGaps', WHERE WHAT IT READS IS OF BULK AT MOST 1048576: true; the input reads as it did. -/
def fuseGapsUptoRow : OpenClaim := { program := "ytoaomnfenofglaa", sum := "88c98be12bace341f46cf6a4845ce89c37ebf85ae28dfcfc7789c60087c8e311", func := "bosket/bosketlaw15.FuseGaps", spec := "fuseGaps", plainKeys := false, apart := false, narrowed := true }
def FuseGapsUptoSaid : Prop := fuseGapsUptoRow.holds Try.pinned (OpenSpec.upto fuseGapsSpec)

/-- 'bosketlaw15.FuseNeeds', WHERE WHAT IT READS IS OF BULK AT MOST 1048576: true; the input reads as it did. -/
def fuseNeedsUptoRow : OpenClaim := { program := "ytoaomnfenofglaa", sum := "88c98be12bace341f46cf6a4845ce89c37ebf85ae28dfcfc7789c60087c8e311", func := "bosket/bosketlaw15.FuseNeeds", spec := "fuseNeeds", plainKeys := false, apart := false, narrowed := true }
def FuseNeedsUptoSaid : Prop := fuseNeedsUptoRow.holds Try.pinned (OpenSpec.upto fuseNeedsSpec)

/-- 'bosketlaw09.MiniBlocks', WHERE WHAT IT READS IS OF BULK AT MOST 1048576: true; the input reads as it did. -/
def miniBlocksUptoRow : OpenClaim := { program := "ytoaomnfenofglaa", sum := "88c98be12bace341f46cf6a4845ce89c37ebf85ae28dfcfc7789c60087c8e311", func := "bosket/bosketlaw09.MiniBlocks", spec := "miniBlocks", plainKeys := false, apart := false, narrowed := true }
def MiniBlocksUptoSaid : Prop := miniBlocksUptoRow.holds Try.pinned (OpenSpec.upto miniBlocksSpec)

/-- 'bosketlaw09.MiniLeast', WHERE WHAT IT READS IS OF BULK AT MOST 1048576: true; the input reads as it did. -/
def miniLeastUptoRow : OpenClaim := { program := "ytoaomnfenofglaa", sum := "88c98be12bace341f46cf6a4845ce89c37ebf85ae28dfcfc7789c60087c8e311", func := "bosket/bosketlaw09.MiniLeast", spec := "miniLeast", plainKeys := false, apart := false, narrowed := true }
def MiniLeastUptoSaid : Prop := miniLeastUptoRow.holds Try.pinned (OpenSpec.upto miniLeastSpec)

/-- 'bosketlaw09.MiniOne', WHERE WHAT IT READS IS OF BULK AT MOST 1048576: true; the input reads as it did. -/
def miniOneUptoRow : OpenClaim := { program := "ytoaomnfenofglaa", sum := "88c98be12bace341f46cf6a4845ce89c37ebf85ae28dfcfc7789c60087c8e311", func := "bosket/bosketlaw09.MiniOne", spec := "miniOne", plainKeys := false, apart := false, narrowed := true }
def MiniOneUptoSaid : Prop := miniOneUptoRow.holds Try.pinned (OpenSpec.upto miniOneSpec)

/-- 'bosketlaw10.LangEqual', WHERE WHAT IT READS IS OF BULK AT MOST 1048576: true; the input reads as it did. -/
def langEqualUptoRow : OpenClaim := { program := "ytoaomnfenofglaa", sum := "88c98be12bace341f46cf6a4845ce89c37ebf85ae28dfcfc7789c60087c8e311", func := "bosket/bosketlaw10.LangEqual", spec := "langEqual", plainKeys := false, apart := false, narrowed := true }
def LangEqualUptoSaid : Prop := langEqualUptoRow.holds Try.pinned (OpenSpec.upto langEqualSpec)

end Rows
end Go.Proofs.Ytoaomnfenofglaa
