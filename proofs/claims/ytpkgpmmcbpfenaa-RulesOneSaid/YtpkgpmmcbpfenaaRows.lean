/-
  No cell of these rows narrows 'for every input' (looked for: loops, veiled, ifaces, maps, wideKeys, modest, calm, conditions, laid).
  DERIVED. THE GIVEN ROWS OF THIS SEAT. 6 by the template 'for every input the law returns true; each argument reads behind the call as it read before'; 0 by the template 'total and deterministic' (their statements: YtpkgpmmcbpfenaaTotals.lean).
  GIVEN WITH THE SEED: the statements are not yours to turn. If you find one false, say at which input.
  Laid BY PROGRAM, IN A SANDBOX (cutbox-rows.mjs): the forced cells as the released guide's own fill.sh prints them over the translation a27f4c88b1fabc27… (all of the seat's roots in one cut). By AI agents, Wed Nov 11 2026. No macro, syntax, notation, axiom, sorry.
-/
import Derived.Test.YtpkgpmmcbpfenaaChecked
import GoSem.Claim
import GoSem.ClaimJoined
import GoSem.ClaimMapViews
import Derived.JoinedTies
import Derived.KernelRfl
namespace Go.Proofs.Ytpkgpmmcbpfenaa
/- THE CELL 'sum', in the pinned program and in every row, IS THE sha256 OF THE DUMP (.gsa) THAT YtpkgpmmcbpfenaaProg.lean LOADS. Nothing in Lean hashes anything: it is a label: what it is worth is what the hold of that sum in a sandbox is worth. -/
noncomputable def Try.pinned : Pinned := { name := "ytpkgpmmcbpfenaa", sum := "a27f4c88b1fabc271e00f20a1c9864c1e391634db9add20e4c89ebae7d72c548", checked := Try.checked }
namespace Rows
def none {H : Type} : Left H := { results := [], args := [] }

/-- 'bosketlaw17.GramLess': WHATEVER THE INPUT: true; the input reads as it did. -/
def gramLessSpec : ChangeSpec := { name := "gramLess", fn := fun _ => fun
  | [d1, d2] => { results := [.lit (.bool true)], args := [d1, d2] }
  | _ => none }
def gramLessRow : OpenClaim := { program := "ytpkgpmmcbpfenaa", sum := "a27f4c88b1fabc271e00f20a1c9864c1e391634db9add20e4c89ebae7d72c548", func := "bosket/bosketlaw17.GramLess", spec := "gramLess", recurses := true, apart := false }
def GramLessSaid : Prop := gramLessRow.holds Try.pinned (OpenSpec.ofChange gramLessSpec)

/-- ITS FALSE NEIGHBOUR: 'it returns false'. Refute it at one input. -/
def gramLessWrong : ChangeSpec := { name := "gramLess", fn := fun _ => fun
  | [d1, d2] => { results := [.lit (.bool false)], args := [d1, d2] }
  | _ => none }
def GramLessWrongFalsely : Prop := gramLessRow.holds Try.pinned (OpenSpec.ofChange gramLessWrong)

/-- 'bosketlaw17.GramSame': WHATEVER THE INPUT: true; the input reads as it did. -/
def gramSameSpec : ChangeSpec := { name := "gramSame", fn := fun _ => fun
  | [d1, d2] => { results := [.lit (.bool true)], args := [d1, d2] }
  | _ => none }
def gramSameRow : OpenClaim := { program := "ytpkgpmmcbpfenaa", sum := "a27f4c88b1fabc271e00f20a1c9864c1e391634db9add20e4c89ebae7d72c548", func := "bosket/bosketlaw17.GramSame", spec := "gramSame", unfollowed := true, recurses := true, apart := false }
def GramSameSaid : Prop := gramSameRow.holds Try.pinned (OpenSpec.ofChange gramSameSpec)

/-- ITS FALSE NEIGHBOUR: 'it returns false'. Refute it at one input. -/
def gramSameWrong : ChangeSpec := { name := "gramSame", fn := fun _ => fun
  | [d1, d2] => { results := [.lit (.bool false)], args := [d1, d2] }
  | _ => none }
def GramSameWrongFalsely : Prop := gramSameRow.holds Try.pinned (OpenSpec.ofChange gramSameWrong)

/-- 'bosketlaw17.GramTells': WHATEVER THE INPUT: true; the input reads as it did. -/
def gramTellsSpec : ChangeSpec := { name := "gramTells", fn := fun _ => fun
  | [d1, d2, d3] => { results := [.lit (.bool true)], args := [d1, d2, d3] }
  | _ => none }
def gramTellsRow : OpenClaim := { program := "ytpkgpmmcbpfenaa", sum := "a27f4c88b1fabc271e00f20a1c9864c1e391634db9add20e4c89ebae7d72c548", func := "bosket/bosketlaw17.GramTells", spec := "gramTells", recurses := true, apart := false }
def GramTellsSaid : Prop := gramTellsRow.holds Try.pinned (OpenSpec.ofChange gramTellsSpec)

/-- ITS FALSE NEIGHBOUR: 'it returns false'. Refute it at one input. -/
def gramTellsWrong : ChangeSpec := { name := "gramTells", fn := fun _ => fun
  | [d1, d2, d3] => { results := [.lit (.bool false)], args := [d1, d2, d3] }
  | _ => none }
def GramTellsWrongFalsely : Prop := gramTellsRow.holds Try.pinned (OpenSpec.ofChange gramTellsWrong)

/-- 'bosketlaw11.RulesHidden': WHATEVER THE INPUT: true; the input reads as it did. -/
def rulesHiddenSpec : ChangeSpec := { name := "rulesHidden", fn := fun _ => fun
  | [d1, d2] => { results := [.lit (.bool true)], args := [d1, d2] }
  | _ => none }
def rulesHiddenRow : OpenClaim := { program := "ytpkgpmmcbpfenaa", sum := "a27f4c88b1fabc271e00f20a1c9864c1e391634db9add20e4c89ebae7d72c548", func := "bosket/bosketlaw11.RulesHidden", spec := "rulesHidden", recurses := true, apart := false }
def RulesHiddenSaid : Prop := rulesHiddenRow.holds Try.pinned (OpenSpec.ofChange rulesHiddenSpec)

/-- ITS FALSE NEIGHBOUR: 'it returns false'. Refute it at one input. -/
def rulesHiddenWrong : ChangeSpec := { name := "rulesHidden", fn := fun _ => fun
  | [d1, d2] => { results := [.lit (.bool false)], args := [d1, d2] }
  | _ => none }
def RulesHiddenWrongFalsely : Prop := rulesHiddenRow.holds Try.pinned (OpenSpec.ofChange rulesHiddenWrong)

/-- 'bosketlaw11.RulesOne': WHATEVER THE INPUT: true; the input reads as it did. -/
def rulesOneSpec : ChangeSpec := { name := "rulesOne", fn := fun _ => fun
  | [d1, d2] => { results := [.lit (.bool true)], args := [d1, d2] }
  | _ => none }
def rulesOneRow : OpenClaim := { program := "ytpkgpmmcbpfenaa", sum := "a27f4c88b1fabc271e00f20a1c9864c1e391634db9add20e4c89ebae7d72c548", func := "bosket/bosketlaw11.RulesOne", spec := "rulesOne", recurses := true, apart := false }
def RulesOneSaid : Prop := rulesOneRow.holds Try.pinned (OpenSpec.ofChange rulesOneSpec)

/-- ITS FALSE NEIGHBOUR: 'it returns false'. Refute it at one input. -/
def rulesOneWrong : ChangeSpec := { name := "rulesOne", fn := fun _ => fun
  | [d1, d2] => { results := [.lit (.bool false)], args := [d1, d2] }
  | _ => none }
def RulesOneWrongFalsely : Prop := rulesOneRow.holds Try.pinned (OpenSpec.ofChange rulesOneWrong)

/-- 'bosketlaw11.RulesCheck': WHATEVER THE INPUT: true; the input reads as it did. -/
def rulesCheckSpec : ChangeSpec := { name := "rulesCheck", fn := fun _ => fun
  | [d1, d2] => { results := [.lit (.bool true)], args := [d1, d2] }
  | _ => none }
def rulesCheckRow : OpenClaim := { program := "ytpkgpmmcbpfenaa", sum := "a27f4c88b1fabc271e00f20a1c9864c1e391634db9add20e4c89ebae7d72c548", func := "bosket/bosketlaw11.RulesCheck", spec := "rulesCheck", recurses := true, apart := false }
def RulesCheckSaid : Prop := rulesCheckRow.holds Try.pinned (OpenSpec.ofChange rulesCheckSpec)

/-- ITS FALSE NEIGHBOUR: 'it returns false'. Refute it at one input. -/
def rulesCheckWrong : ChangeSpec := { name := "rulesCheck", fn := fun _ => fun
  | [d1, d2] => { results := [.lit (.bool false)], args := [d1, d2] }
  | _ => none }
def RulesCheckWrongFalsely : Prop := rulesCheckRow.holds Try.pinned (OpenSpec.ofChange rulesCheckWrong)

/- THE SECOND FORM. 'bulk': how many values and letters a reading holds, each counted each time it is reached (what is shared counts as often as it is met; a slice's spare places count too). A statement '..UptoSaid' is the law's where the arguments, and the package variables that the reading takes, are together of bulk at most 1048576: NARROWER than '..Said'. Prove '..Said' where nothing that the law and all that it calls make is longer than what came in: it says more and counts as full. Else prove '..UptoSaid'. A law counts once. -/
mutual
def uptoBulk {H : Type} : DataW H → Nat
  | .lit (.string bytes) => bytes.length + 1
  | .lit _ => 1
  | .nil => 1
  | .ptr d => uptoBulk d + 1
  | .slice elems spare => uptoBulkAll elems + uptoBulkAll spare + 1
  | .agg parts => uptoBulkAll parts + 1
  | .iface _ d => uptoBulk d + 1
  | .map entries => uptoBulkEntries entries + 1
  | .held _ => 1
def uptoBulkAll {H : Type} : List (DataW H) → Nat
  | [] => 0
  | d :: r => uptoBulk d + uptoBulkAll r
def uptoBulkEntries {H : Type} : List (Lit × DataW H) → Nat
  | [] => 0
  | x :: r => uptoBulkEntry x + uptoBulkEntries r
def uptoBulkEntry {H : Type} : Lit × DataW H → Nat
  | (.string bytes, d) => bytes.length + uptoBulk d + 1
  | (_, d) => uptoBulk d + 1
 end
def uptoSmall : (H : Type) → List (DataW H) → Bool := fun _ ds => decide (uptoBulkAll ds ≤ 1048576)
def OpenSpec.upto (s : _root_.Go.ChangeSpec) : _root_.Go.OpenSpec := { _root_.Go.OpenSpec.ofChange s with cond := some uptoSmall }

/-- 'bosketlaw17.GramLess', WHERE WHAT IT READS IS OF BULK AT MOST 1048576: true; the input reads as it did. -/
def gramLessUptoRow : OpenClaim := { program := "ytpkgpmmcbpfenaa", sum := "a27f4c88b1fabc271e00f20a1c9864c1e391634db9add20e4c89ebae7d72c548", func := "bosket/bosketlaw17.GramLess", spec := "gramLess", recurses := true, apart := false, narrowed := true }
def GramLessUptoSaid : Prop := gramLessUptoRow.holds Try.pinned (OpenSpec.upto gramLessSpec)

/-- 'bosketlaw17.GramSame', WHERE WHAT IT READS IS OF BULK AT MOST 1048576: true; the input reads as it did. -/
def gramSameUptoRow : OpenClaim := { program := "ytpkgpmmcbpfenaa", sum := "a27f4c88b1fabc271e00f20a1c9864c1e391634db9add20e4c89ebae7d72c548", func := "bosket/bosketlaw17.GramSame", spec := "gramSame", unfollowed := true, recurses := true, apart := false, narrowed := true }
def GramSameUptoSaid : Prop := gramSameUptoRow.holds Try.pinned (OpenSpec.upto gramSameSpec)

/-- 'bosketlaw17.GramTells', WHERE WHAT IT READS IS OF BULK AT MOST 1048576: true; the input reads as it did. -/
def gramTellsUptoRow : OpenClaim := { program := "ytpkgpmmcbpfenaa", sum := "a27f4c88b1fabc271e00f20a1c9864c1e391634db9add20e4c89ebae7d72c548", func := "bosket/bosketlaw17.GramTells", spec := "gramTells", recurses := true, apart := false, narrowed := true }
def GramTellsUptoSaid : Prop := gramTellsUptoRow.holds Try.pinned (OpenSpec.upto gramTellsSpec)

/-- 'bosketlaw11.RulesHidden', WHERE WHAT IT READS IS OF BULK AT MOST 1048576: true; the input reads as it did. -/
def rulesHiddenUptoRow : OpenClaim := { program := "ytpkgpmmcbpfenaa", sum := "a27f4c88b1fabc271e00f20a1c9864c1e391634db9add20e4c89ebae7d72c548", func := "bosket/bosketlaw11.RulesHidden", spec := "rulesHidden", recurses := true, apart := false, narrowed := true }
def RulesHiddenUptoSaid : Prop := rulesHiddenUptoRow.holds Try.pinned (OpenSpec.upto rulesHiddenSpec)

/-- 'bosketlaw11.RulesOne', WHERE WHAT IT READS IS OF BULK AT MOST 1048576: true; the input reads as it did. -/
def rulesOneUptoRow : OpenClaim := { program := "ytpkgpmmcbpfenaa", sum := "a27f4c88b1fabc271e00f20a1c9864c1e391634db9add20e4c89ebae7d72c548", func := "bosket/bosketlaw11.RulesOne", spec := "rulesOne", recurses := true, apart := false, narrowed := true }
def RulesOneUptoSaid : Prop := rulesOneUptoRow.holds Try.pinned (OpenSpec.upto rulesOneSpec)

/-- 'bosketlaw11.RulesCheck', WHERE WHAT IT READS IS OF BULK AT MOST 1048576: true; the input reads as it did. -/
def rulesCheckUptoRow : OpenClaim := { program := "ytpkgpmmcbpfenaa", sum := "a27f4c88b1fabc271e00f20a1c9864c1e391634db9add20e4c89ebae7d72c548", func := "bosket/bosketlaw11.RulesCheck", spec := "rulesCheck", recurses := true, apart := false, narrowed := true }
def RulesCheckUptoSaid : Prop := rulesCheckUptoRow.holds Try.pinned (OpenSpec.upto rulesCheckSpec)

end Rows
end Go.Proofs.Ytpkgpmmcbpfenaa
