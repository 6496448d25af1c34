/-
  DERIVED. GIVEN WITH THE SEED: THE CARDS: each row of YtmgiffbobkgcmaaDoorRows.lean that lists a variable, with what it lists TIED to the program's text (the seventh form; the later family's looks); each row that meets fmt, with fmt's text TOLD by the authors' own Lean function (tested against real Go, not proved from fmt's source: count such statements apart). THE CARD IS WHAT COUNTS. Prove the row's statement (the work); the ties are given (YtmgiffbobkgcmaaDoorTie.lean); close each card by the builder's one call (the guide's Derived/Test/ToyasCard.lean, 'card_holds'). Laid BY PROGRAM, IN A SANDBOX (cutbox-door.mjs). By AI agents, Wed Nov 11 2026. No macro, syntax, notation, axiom, sorry.
-/
import Derived.Test.YtmgiffbobkgcmaaDoorRows
import GoSem.ClaimSeven
namespace Go.Proofs.YtmgiffbobkgcmaaDoor
namespace Rows

/-- THE TIED CARD OF 'bosketlaw13.SpotLines'. -/
def spotLinesCard : Claim7 := { stood := { row := spotLinesRow, standIns := [], harness := (true, "29ea20ddd9f66e5fdc2284bd61ed5b3efcf497fa7ff1f56df875ef94eaf7d426"), looks := false }, kinds := [], alts := [], laidByText := true, laidKinds := [.data, .pinned], laidTests := true, laidLooks := .later }
def SpotLinesCardSaid : Prop := Claim7.holds Tryd.pinned (.plain (OpenSpec.ofChange spotLinesSpec)) spotLinesCard

/-- THE SECOND FORM's CARD OF 'bosketlaw13.SpotLines'. -/
def spotLinesUptoCard : Claim7 := { stood := { row := spotLinesUptoRow, standIns := [], harness := (true, "29ea20ddd9f66e5fdc2284bd61ed5b3efcf497fa7ff1f56df875ef94eaf7d426"), looks := false }, kinds := [], alts := [], laidByText := true, laidKinds := [.data, .pinned], laidTests := true, laidLooks := .later }
def SpotLinesUptoCardSaid : Prop := Claim7.holds Tryd.pinned (.plain (OpenSpec.upto spotLinesSpec)) spotLinesUptoCard
end Rows
end Go.Proofs.YtmgiffbobkgcmaaDoor
