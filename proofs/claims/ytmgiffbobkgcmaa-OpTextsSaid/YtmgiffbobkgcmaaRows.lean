/-
  No cell of these rows narrows 'for every input' (looked for: loops, veiled, ifaces, maps, wideKeys, modest, calm, conditions, laid).
  DERIVED. THE GIVEN ROWS OF THIS SEAT. 9 by the template 'for every input the law returns true; each argument reads behind the call as it read before'; 0 by the template 'total and deterministic' (their statements: YtmgiffbobkgcmaaTotals.lean).
  GIVEN WITH THE SEED: the statements are not yours to turn. If you find one false, say at which input.
  Laid BY PROGRAM, IN A SANDBOX (cutbox-rows.mjs): the forced cells as the released guide's own fill.sh prints them over the translation f9a5f28c068b06a2… (all of the seat's roots in one cut). By AI agents, Wed Nov 11 2026. No macro, syntax, notation, axiom, sorry.
-/
import Derived.Test.YtmgiffbobkgcmaaChecked
import GoSem.Claim
import GoSem.ClaimJoined
import GoSem.ClaimMapViews
import Derived.JoinedTies
import Derived.KernelRfl
namespace Go.Proofs.Ytmgiffbobkgcmaa
/- THE CELL 'sum', in the pinned program and in every row, IS THE sha256 OF THE DUMP (.gsa) THAT YtmgiffbobkgcmaaProg.lean LOADS. Nothing in Lean hashes anything: it is a label: what it is worth is what the hold of that sum in a sandbox is worth. -/
noncomputable def Try.pinned : Pinned := { name := "ytmgiffbobkgcmaa", sum := "f9a5f28c068b06a2c2ee2546ac838d20f0360d9012536a723d9962f6defc956a", checked := Try.checked }
namespace Rows
def none {H : Type} : Left H := { results := [], args := [] }

/-- 'bosketlaw13.SpotPlaces': WHATEVER THE INPUT: true; the input reads as it did. -/
def spotPlacesSpec : ChangeSpec := { name := "spotPlaces", fn := fun _ => fun
  | [d1, d2, d3] => { results := [.lit (.bool true)], args := [d1, d2, d3] }
  | _ => none }
def spotPlacesRow : OpenClaim := { program := "ytmgiffbobkgcmaa", sum := "f9a5f28c068b06a2c2ee2546ac838d20f0360d9012536a723d9962f6defc956a", func := "bosket/bosketlaw13.SpotPlaces", spec := "spotPlaces", inPlace := ["internal/bytealg.CountString", "internal/bytealg.IndexByteString", "internal/bytealg.IndexString"], recurses := true, named := ["internal/bytealg.MaxLen"], apart := false }
def SpotPlacesSaid : Prop := spotPlacesRow.holds Try.pinned (OpenSpec.ofChange spotPlacesSpec)

/-- ITS FALSE NEIGHBOUR: 'it returns false'. Refute it at one input. -/
def spotPlacesWrong : ChangeSpec := { name := "spotPlaces", fn := fun _ => fun
  | [d1, d2, d3] => { results := [.lit (.bool false)], args := [d1, d2, d3] }
  | _ => none }
def SpotPlacesWrongFalsely : Prop := spotPlacesRow.holds Try.pinned (OpenSpec.ofChange spotPlacesWrong)

/-- 'bosketlaw13.SpotNumbers': WHATEVER THE INPUT: true; the input reads as it did. -/
def spotNumbersSpec : ChangeSpec := { name := "spotNumbers", fn := fun _ => fun
  | [d1, d2] => { results := [.lit (.bool true)], args := [d1, d2] }
  | _ => none }
def spotNumbersRow : OpenClaim := { program := "ytmgiffbobkgcmaa", sum := "f9a5f28c068b06a2c2ee2546ac838d20f0360d9012536a723d9962f6defc956a", func := "bosket/bosketlaw13.SpotNumbers", spec := "spotNumbers", inPlace := ["internal/bytealg.CountString", "internal/bytealg.IndexByteString", "internal/bytealg.IndexString"], recurses := true, named := ["internal/bytealg.MaxLen"], apart := false }
def SpotNumbersSaid : Prop := spotNumbersRow.holds Try.pinned (OpenSpec.ofChange spotNumbersSpec)

/-- ITS FALSE NEIGHBOUR: 'it returns false'. Refute it at one input. -/
def spotNumbersWrong : ChangeSpec := { name := "spotNumbers", fn := fun _ => fun
  | [d1, d2] => { results := [.lit (.bool false)], args := [d1, d2] }
  | _ => none }
def SpotNumbersWrongFalsely : Prop := spotNumbersRow.holds Try.pinned (OpenSpec.ofChange spotNumbersWrong)

/-- 'bosketlaw31.AstShows': WHATEVER THE INPUT: true; the input reads as it did. -/
def astShowsSpec : ChangeSpec := { name := "astShows", fn := fun _ => fun
  | [d] => { results := [.lit (.bool true)], args := [d] }
  | _ => none }
def astShowsRow : OpenClaim := { program := "ytmgiffbobkgcmaa", sum := "f9a5f28c068b06a2c2ee2546ac838d20f0360d9012536a723d9962f6defc956a", func := "bosket/bosketlaw31.AstShows", spec := "astShows", recurses := true, apart := false }
def AstShowsSaid : Prop := astShowsRow.holds Try.pinned (OpenSpec.ofChange astShowsSpec)

/-- ITS FALSE NEIGHBOUR: 'it returns false'. Refute it at one input. -/
def astShowsWrong : ChangeSpec := { name := "astShows", fn := fun _ => fun
  | [d] => { results := [.lit (.bool false)], args := [d] }
  | _ => none }
def AstShowsWrongFalsely : Prop := astShowsRow.holds Try.pinned (OpenSpec.ofChange astShowsWrong)

/-- 'bosketlaw31.AstReads': WHATEVER THE INPUT: true; the input reads as it did. -/
def astReadsSpec : ChangeSpec := { name := "astReads", fn := fun _ => fun
  | [d] => { results := [.lit (.bool true)], args := [d] }
  | _ => none }
def astReadsRow : OpenClaim := { program := "ytmgiffbobkgcmaa", sum := "f9a5f28c068b06a2c2ee2546ac838d20f0360d9012536a723d9962f6defc956a", func := "bosket/bosketlaw31.AstReads", spec := "astReads", recurses := true, apart := false }
def AstReadsSaid : Prop := astReadsRow.holds Try.pinned (OpenSpec.ofChange astReadsSpec)

/-- ITS FALSE NEIGHBOUR: 'it returns false'. Refute it at one input. -/
def astReadsWrong : ChangeSpec := { name := "astReads", fn := fun _ => fun
  | [d] => { results := [.lit (.bool false)], args := [d] }
  | _ => none }
def AstReadsWrongFalsely : Prop := astReadsRow.holds Try.pinned (OpenSpec.ofChange astReadsWrong)

/-- 'bosketlaw31.AstTells': WHATEVER THE INPUT: true; the input reads as it did. -/
def astTellsSpec : ChangeSpec := { name := "astTells", fn := fun _ => fun
  | [d1, d2] => { results := [.lit (.bool true)], args := [d1, d2] }
  | _ => none }
def astTellsRow : OpenClaim := { program := "ytmgiffbobkgcmaa", sum := "f9a5f28c068b06a2c2ee2546ac838d20f0360d9012536a723d9962f6defc956a", func := "bosket/bosketlaw31.AstTells", spec := "astTells", recurses := true, apart := false }
def AstTellsSaid : Prop := astTellsRow.holds Try.pinned (OpenSpec.ofChange astTellsSpec)

/-- ITS FALSE NEIGHBOUR: 'it returns false'. Refute it at one input. -/
def astTellsWrong : ChangeSpec := { name := "astTells", fn := fun _ => fun
  | [d1, d2] => { results := [.lit (.bool false)], args := [d1, d2] }
  | _ => none }
def AstTellsWrongFalsely : Prop := astTellsRow.holds Try.pinned (OpenSpec.ofChange astTellsWrong)

/-- 'bosketlaw47.OpLines': WHATEVER THE INPUT: true; the input reads as it did. -/
def opLinesSpec : ChangeSpec := { name := "opLines", fn := fun _ => fun
  | [d] => { results := [.lit (.bool true)], args := [d] }
  | _ => none }
def opLinesRow : OpenClaim := { program := "ytmgiffbobkgcmaa", sum := "f9a5f28c068b06a2c2ee2546ac838d20f0360d9012536a723d9962f6defc956a", func := "bosket/bosketlaw47.OpLines", spec := "opLines", inPlace := ["internal/bytealg.IndexByteString", "internal/bytealg.IndexString"], recurses := true, named := ["internal/bytealg.MaxLen"], apart := false }
def OpLinesSaid : Prop := opLinesRow.holds Try.pinned (OpenSpec.ofChange opLinesSpec)

/-- ITS FALSE NEIGHBOUR: 'it returns false'. Refute it at one input. -/
def opLinesWrong : ChangeSpec := { name := "opLines", fn := fun _ => fun
  | [d] => { results := [.lit (.bool false)], args := [d] }
  | _ => none }
def OpLinesWrongFalsely : Prop := opLinesRow.holds Try.pinned (OpenSpec.ofChange opLinesWrong)

/-- 'bosketlaw47.OpReads': WHATEVER THE INPUT: true; the input reads as it did. -/
def opReadsSpec : ChangeSpec := { name := "opReads", fn := fun _ => fun
  | [d1, d2] => { results := [.lit (.bool true)], args := [d1, d2] }
  | _ => none }
def opReadsRow : OpenClaim := { program := "ytmgiffbobkgcmaa", sum := "f9a5f28c068b06a2c2ee2546ac838d20f0360d9012536a723d9962f6defc956a", func := "bosket/bosketlaw47.OpReads", spec := "opReads", inPlace := ["internal/bytealg.IndexByteString", "internal/bytealg.IndexString"], recurses := true, named := ["internal/bytealg.MaxLen"], apart := false }
def OpReadsSaid : Prop := opReadsRow.holds Try.pinned (OpenSpec.ofChange opReadsSpec)

/-- ITS FALSE NEIGHBOUR: 'it returns false'. Refute it at one input. -/
def opReadsWrong : ChangeSpec := { name := "opReads", fn := fun _ => fun
  | [d1, d2] => { results := [.lit (.bool false)], args := [d1, d2] }
  | _ => none }
def OpReadsWrongFalsely : Prop := opReadsRow.holds Try.pinned (OpenSpec.ofChange opReadsWrong)

/-- 'bosketlaw47.OpScripts': WHATEVER THE INPUT: true; the input reads as it did. -/
def opScriptsSpec : ChangeSpec := { name := "opScripts", fn := fun _ => fun
  | [d] => { results := [.lit (.bool true)], args := [d] }
  | _ => none }
def opScriptsRow : OpenClaim := { program := "ytmgiffbobkgcmaa", sum := "f9a5f28c068b06a2c2ee2546ac838d20f0360d9012536a723d9962f6defc956a", func := "bosket/bosketlaw47.OpScripts", spec := "opScripts", inPlace := ["internal/bytealg.IndexByteString", "internal/bytealg.IndexString"], unfollowed := true, recurses := true, named := ["internal/bytealg.MaxLen"], apart := false }
def OpScriptsSaid : Prop := opScriptsRow.holds Try.pinned (OpenSpec.ofChange opScriptsSpec)

/-- ITS FALSE NEIGHBOUR: 'it returns false'. Refute it at one input. -/
def opScriptsWrong : ChangeSpec := { name := "opScripts", fn := fun _ => fun
  | [d] => { results := [.lit (.bool false)], args := [d] }
  | _ => none }
def OpScriptsWrongFalsely : Prop := opScriptsRow.holds Try.pinned (OpenSpec.ofChange opScriptsWrong)

/-- 'bosketlaw47.OpTexts': WHATEVER THE INPUT: true; the input reads as it did. -/
def opTextsSpec : ChangeSpec := { name := "opTexts", fn := fun _ => fun
  | [d] => { results := [.lit (.bool true)], args := [d] }
  | _ => none }
def opTextsRow : OpenClaim := { program := "ytmgiffbobkgcmaa", sum := "f9a5f28c068b06a2c2ee2546ac838d20f0360d9012536a723d9962f6defc956a", func := "bosket/bosketlaw47.OpTexts", spec := "opTexts", inPlace := ["internal/bytealg.IndexByteString", "internal/bytealg.IndexString"], unfollowed := true, recurses := true, named := ["internal/bytealg.MaxLen"], apart := false }
def OpTextsSaid : Prop := opTextsRow.holds Try.pinned (OpenSpec.ofChange opTextsSpec)

/-- ITS FALSE NEIGHBOUR: 'it returns false'. Refute it at one input. -/
def opTextsWrong : ChangeSpec := { name := "opTexts", fn := fun _ => fun
  | [d] => { results := [.lit (.bool false)], args := [d] }
  | _ => none }
def OpTextsWrongFalsely : Prop := opTextsRow.holds Try.pinned (OpenSpec.ofChange opTextsWrong)

/- THE SECOND FORM. 'bulk': how many values and letters a reading holds, each counted each time it is reached (what is shared counts as often as it is met; a slice's spare places count too). A statement '..UptoSaid' is the law's where the arguments, and the package variables that the reading takes, are together of bulk at most 1048576: NARROWER than '..Said'. Prove '..Said' where nothing that the law and all that it calls make is longer than what came in: it says more and counts as full. Else prove '..UptoSaid'. A law counts once. -/
mutual
def uptoBulk {H : Type} : DataW H → Nat
  | .lit (.string bytes) => bytes.length + 1
  | .lit _ => 1
  | .nil => 1
  | .ptr d => uptoBulk d + 1
  | .slice elems spare => uptoBulkAll elems + uptoBulkAll spare + 1
  | .agg parts => uptoBulkAll parts + 1
  | .iface _ d => uptoBulk d + 1
  | .map entries => uptoBulkEntries entries + 1
  | .held _ => 1
def uptoBulkAll {H : Type} : List (DataW H) → Nat
  | [] => 0
  | d :: r => uptoBulk d + uptoBulkAll r
def uptoBulkEntries {H : Type} : List (Lit × DataW H) → Nat
  | [] => 0
  | x :: r => uptoBulkEntry x + uptoBulkEntries r
def uptoBulkEntry {H : Type} : Lit × DataW H → Nat
  | (.string bytes, d) => bytes.length + uptoBulk d + 1
  | (_, d) => uptoBulk d + 1
 end
def uptoSmall : (H : Type) → List (DataW H) → Bool := fun _ ds => decide (uptoBulkAll ds ≤ 1048576)
def OpenSpec.upto (s : _root_.Go.ChangeSpec) : _root_.Go.OpenSpec := { _root_.Go.OpenSpec.ofChange s with cond := some uptoSmall }

/-- 'bosketlaw13.SpotPlaces', WHERE WHAT IT READS IS OF BULK AT MOST 1048576: true; the input reads as it did. -/
def spotPlacesUptoRow : OpenClaim := { program := "ytmgiffbobkgcmaa", sum := "f9a5f28c068b06a2c2ee2546ac838d20f0360d9012536a723d9962f6defc956a", func := "bosket/bosketlaw13.SpotPlaces", spec := "spotPlaces", inPlace := ["internal/bytealg.CountString", "internal/bytealg.IndexByteString", "internal/bytealg.IndexString"], recurses := true, named := ["internal/bytealg.MaxLen"], apart := false, narrowed := true }
def SpotPlacesUptoSaid : Prop := spotPlacesUptoRow.holds Try.pinned (OpenSpec.upto spotPlacesSpec)

/-- 'bosketlaw13.SpotNumbers', WHERE WHAT IT READS IS OF BULK AT MOST 1048576: true; the input reads as it did. -/
def spotNumbersUptoRow : OpenClaim := { program := "ytmgiffbobkgcmaa", sum := "f9a5f28c068b06a2c2ee2546ac838d20f0360d9012536a723d9962f6defc956a", func := "bosket/bosketlaw13.SpotNumbers", spec := "spotNumbers", inPlace := ["internal/bytealg.CountString", "internal/bytealg.IndexByteString", "internal/bytealg.IndexString"], recurses := true, named := ["internal/bytealg.MaxLen"], apart := false, narrowed := true }
def SpotNumbersUptoSaid : Prop := spotNumbersUptoRow.holds Try.pinned (OpenSpec.upto spotNumbersSpec)

/-- 'bosketlaw31.AstShows', WHERE WHAT IT READS IS OF BULK AT MOST 1048576: true; the input reads as it did. -/
def astShowsUptoRow : OpenClaim := { program := "ytmgiffbobkgcmaa", sum := "f9a5f28c068b06a2c2ee2546ac838d20f0360d9012536a723d9962f6defc956a", func := "bosket/bosketlaw31.AstShows", spec := "astShows", recurses := true, apart := false, narrowed := true }
def AstShowsUptoSaid : Prop := astShowsUptoRow.holds Try.pinned (OpenSpec.upto astShowsSpec)

/-- 'bosketlaw31.AstReads', WHERE WHAT IT READS IS OF BULK AT MOST 1048576: true; the input reads as it did. -/
def astReadsUptoRow : OpenClaim := { program := "ytmgiffbobkgcmaa", sum := "f9a5f28c068b06a2c2ee2546ac838d20f0360d9012536a723d9962f6defc956a", func := "bosket/bosketlaw31.AstReads", spec := "astReads", recurses := true, apart := false, narrowed := true }
def AstReadsUptoSaid : Prop := astReadsUptoRow.holds Try.pinned (OpenSpec.upto astReadsSpec)

/-- 'bosketlaw31.AstTells', WHERE WHAT IT READS IS OF BULK AT MOST 1048576: true; the input reads as it did. -/
def astTellsUptoRow : OpenClaim := { program := "ytmgiffbobkgcmaa", sum := "f9a5f28c068b06a2c2ee2546ac838d20f0360d9012536a723d9962f6defc956a", func := "bosket/bosketlaw31.AstTells", spec := "astTells", recurses := true, apart := false, narrowed := true }
def AstTellsUptoSaid : Prop := astTellsUptoRow.holds Try.pinned (OpenSpec.upto astTellsSpec)

/-- 'bosketlaw47.OpLines', WHERE WHAT IT READS IS OF BULK AT MOST 1048576: true; the input reads as it did. -/
def opLinesUptoRow : OpenClaim := { program := "ytmgiffbobkgcmaa", sum := "f9a5f28c068b06a2c2ee2546ac838d20f0360d9012536a723d9962f6defc956a", func := "bosket/bosketlaw47.OpLines", spec := "opLines", inPlace := ["internal/bytealg.IndexByteString", "internal/bytealg.IndexString"], recurses := true, named := ["internal/bytealg.MaxLen"], apart := false, narrowed := true }
def OpLinesUptoSaid : Prop := opLinesUptoRow.holds Try.pinned (OpenSpec.upto opLinesSpec)

/-- 'bosketlaw47.OpReads', WHERE WHAT IT READS IS OF BULK AT MOST 1048576: true; the input reads as it did. -/
def opReadsUptoRow : OpenClaim := { program := "ytmgiffbobkgcmaa", sum := "f9a5f28c068b06a2c2ee2546ac838d20f0360d9012536a723d9962f6defc956a", func := "bosket/bosketlaw47.OpReads", spec := "opReads", inPlace := ["internal/bytealg.IndexByteString", "internal/bytealg.IndexString"], recurses := true, named := ["internal/bytealg.MaxLen"], apart := false, narrowed := true }
def OpReadsUptoSaid : Prop := opReadsUptoRow.holds Try.pinned (OpenSpec.upto opReadsSpec)

/-- 'bosketlaw47.OpScripts', WHERE WHAT IT READS IS OF BULK AT MOST 1048576: true; the input reads as it did. -/
def opScriptsUptoRow : OpenClaim := { program := "ytmgiffbobkgcmaa", sum := "f9a5f28c068b06a2c2ee2546ac838d20f0360d9012536a723d9962f6defc956a", func := "bosket/bosketlaw47.OpScripts", spec := "opScripts", inPlace := ["internal/bytealg.IndexByteString", "internal/bytealg.IndexString"], unfollowed := true, recurses := true, named := ["internal/bytealg.MaxLen"], apart := false, narrowed := true }
def OpScriptsUptoSaid : Prop := opScriptsUptoRow.holds Try.pinned (OpenSpec.upto opScriptsSpec)

/-- 'bosketlaw47.OpTexts', WHERE WHAT IT READS IS OF BULK AT MOST 1048576: true; the input reads as it did. -/
def opTextsUptoRow : OpenClaim := { program := "ytmgiffbobkgcmaa", sum := "f9a5f28c068b06a2c2ee2546ac838d20f0360d9012536a723d9962f6defc956a", func := "bosket/bosketlaw47.OpTexts", spec := "opTexts", inPlace := ["internal/bytealg.IndexByteString", "internal/bytealg.IndexString"], unfollowed := true, recurses := true, named := ["internal/bytealg.MaxLen"], apart := false, narrowed := true }
def OpTextsUptoSaid : Prop := opTextsUptoRow.holds Try.pinned (OpenSpec.upto opTextsSpec)

end Rows
end Go.Proofs.Ytmgiffbobkgcmaa
