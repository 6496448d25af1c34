/-
  DERIVED. GIVEN WITH THE SEED: THE CARDS: each row of YtcdennkoccjacaaDoorRows.lean that lists a variable, with what it lists TIED to the program's text (the seventh form; the later family's looks); each row that meets fmt, with fmt's text TOLD by the authors' own Lean function (tested against real Go, not proved from fmt's source: count such statements apart). THE CARD IS WHAT COUNTS. Prove the row's statement (the work); the ties are given (YtcdennkoccjacaaDoorTie.lean); close each card by the builder's one call (the guide's Derived/Test/ToyasCard.lean, 'card_holds'). Laid BY PROGRAM, IN A SANDBOX (cutbox-door.mjs). By AI agents, Wed Nov 11 2026. No macro, syntax, notation, axiom, sorry.
-/
import Derived.Test.YtcdennkoccjacaaDoorRows
import GoSem.ClaimSeven
namespace Go.Proofs.YtcdennkoccjacaaDoor
namespace Rows

/-- THE TIED CARD OF 'bosketlaw04.RexShows'. -/
def rexShowsCard : Claim7 := { stood := { row := rexShowsRow, standIns := [], harness := (true, "2fc029c756fa2dfec4a84bd8c6cc770bfc209f13a659017e55be7c20fc95b919"), looks := false }, kinds := [], alts := [], laidByText := true, laidKinds := [.data], laidTests := true, laidLooks := .later }
def RexShowsCardSaid : Prop := Claim7.holds Tryd.pinned (.plain (OpenSpec.ofChange rexShowsSpec)) rexShowsCard

/-- THE TIED CARD OF 'bosketlaw04.RexChecks'. -/
def rexChecksCard : Claim7 := { stood := { row := rexChecksRow, standIns := [], harness := (true, "2fc029c756fa2dfec4a84bd8c6cc770bfc209f13a659017e55be7c20fc95b919"), looks := false }, kinds := [], alts := [], laidByText := true, laidKinds := [.data], laidTests := true, laidLooks := .later }
def RexChecksCardSaid : Prop := Claim7.holds Tryd.pinned (.plain (OpenSpec.ofChange rexChecksSpec)) rexChecksCard

/-- THE SECOND FORM's CARD OF 'bosketlaw04.RexShows'. -/
def rexShowsUptoCard : Claim7 := { stood := { row := rexShowsUptoRow, standIns := [], harness := (true, "2fc029c756fa2dfec4a84bd8c6cc770bfc209f13a659017e55be7c20fc95b919"), looks := false }, kinds := [], alts := [], laidByText := true, laidKinds := [.data], laidTests := true, laidLooks := .later }
def RexShowsUptoCardSaid : Prop := Claim7.holds Tryd.pinned (.plain (OpenSpec.upto rexShowsSpec)) rexShowsUptoCard

/-- THE SECOND FORM's CARD OF 'bosketlaw04.RexChecks'. -/
def rexChecksUptoCard : Claim7 := { stood := { row := rexChecksUptoRow, standIns := [], harness := (true, "2fc029c756fa2dfec4a84bd8c6cc770bfc209f13a659017e55be7c20fc95b919"), looks := false }, kinds := [], alts := [], laidByText := true, laidKinds := [.data], laidTests := true, laidLooks := .later }
def RexChecksUptoCardSaid : Prop := Claim7.holds Tryd.pinned (.plain (OpenSpec.upto rexChecksSpec)) rexChecksUptoCard
end Rows
end Go.Proofs.YtcdennkoccjacaaDoor
