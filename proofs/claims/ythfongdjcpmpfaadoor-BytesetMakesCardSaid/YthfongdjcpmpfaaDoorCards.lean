/-
  DERIVED. GIVEN WITH THE SEED: THE CARDS: each row of YthfongdjcpmpfaaDoorRows.lean that lists a variable, with what it lists TIED to the program's text (the seventh form; the later family's looks); each row that meets fmt, with fmt's text TOLD by the authors' own Lean function (tested against real Go, not proved from fmt's source: count such statements apart). THE CARD IS WHAT COUNTS. Prove the row's statement (the work); the ties are given (YthfongdjcpmpfaaDoorTie.lean); close each card by the builder's one call (the guide's Derived/Test/ToyasCard.lean, 'card_holds'). Laid BY PROGRAM, IN A SANDBOX (cutbox-door.mjs). By AI agents, Wed Nov 11 2026. No macro, syntax, notation, axiom, sorry.
-/
import Derived.Test.YthfongdjcpmpfaaDoorRows
import GoSem.ClaimSeven
namespace Go.Proofs.YthfongdjcpmpfaaDoor
namespace Rows

/-- THE TIED CARD OF 'bosketlaw02.BytesetMakes'. -/
def bytesetMakesCard : Claim7 := { stood := { row := bytesetMakesRow, standIns := [], harness := (true, "d1451874c2976b01707bf864a445d2b4aec4efeab4a0f520eeeffdaad8a0b485"), looks := false }, kinds := [], alts := [], laidByText := true, laidKinds := [.data], laidTests := true, laidLooks := .later }
def BytesetMakesCardSaid : Prop := Claim7.holds Tryd.pinned (.plain (OpenSpec.ofChange bytesetMakesSpec)) bytesetMakesCard

/-- THE TIED CARD OF 'bosketlaw02.BytesetSpans'. -/
def bytesetSpansCard : Claim7 := { stood := { row := bytesetSpansRow, standIns := [], harness := (true, "d1451874c2976b01707bf864a445d2b4aec4efeab4a0f520eeeffdaad8a0b485"), looks := false }, kinds := [], alts := [], laidByText := true, laidKinds := [.data], laidTests := true, laidLooks := .later }
def BytesetSpansCardSaid : Prop := Claim7.holds Tryd.pinned (.plain (OpenSpec.ofChange bytesetSpansSpec)) bytesetSpansCard

/-- THE TIED CARD OF 'bosketlaw02.BytesetClasses'. -/
def bytesetClassesCard : Claim7 := { stood := { row := bytesetClassesRow, standIns := [], harness := (true, "d1451874c2976b01707bf864a445d2b4aec4efeab4a0f520eeeffdaad8a0b485"), looks := false }, kinds := [], alts := [], laidByText := true, laidKinds := [.data], laidTests := true, laidLooks := .later }
def BytesetClassesCardSaid : Prop := Claim7.holds Tryd.pinned (.plain (OpenSpec.ofChange bytesetClassesSpec)) bytesetClassesCard

/-- THE TIED CARD OF 'bosketlaw02.BytesetTells'. -/
def bytesetTellsCard : Claim7 := { stood := { row := bytesetTellsRow, standIns := [], harness := (true, "d1451874c2976b01707bf864a445d2b4aec4efeab4a0f520eeeffdaad8a0b485"), looks := false }, kinds := [], alts := [], laidByText := true, laidKinds := [.data], laidTests := true, laidLooks := .later }
def BytesetTellsCardSaid : Prop := Claim7.holds Tryd.pinned (.plain (OpenSpec.ofChange bytesetTellsSpec)) bytesetTellsCard

/-- THE SECOND FORM's CARD OF 'bosketlaw02.BytesetMakes'. -/
def bytesetMakesUptoCard : Claim7 := { stood := { row := bytesetMakesUptoRow, standIns := [], harness := (true, "d1451874c2976b01707bf864a445d2b4aec4efeab4a0f520eeeffdaad8a0b485"), looks := false }, kinds := [], alts := [], laidByText := true, laidKinds := [.data], laidTests := true, laidLooks := .later }
def BytesetMakesUptoCardSaid : Prop := Claim7.holds Tryd.pinned (.plain (OpenSpec.upto bytesetMakesSpec)) bytesetMakesUptoCard

/-- THE SECOND FORM's CARD OF 'bosketlaw02.BytesetSpans'. -/
def bytesetSpansUptoCard : Claim7 := { stood := { row := bytesetSpansUptoRow, standIns := [], harness := (true, "d1451874c2976b01707bf864a445d2b4aec4efeab4a0f520eeeffdaad8a0b485"), looks := false }, kinds := [], alts := [], laidByText := true, laidKinds := [.data], laidTests := true, laidLooks := .later }
def BytesetSpansUptoCardSaid : Prop := Claim7.holds Tryd.pinned (.plain (OpenSpec.upto bytesetSpansSpec)) bytesetSpansUptoCard

/-- THE SECOND FORM's CARD OF 'bosketlaw02.BytesetClasses'. -/
def bytesetClassesUptoCard : Claim7 := { stood := { row := bytesetClassesUptoRow, standIns := [], harness := (true, "d1451874c2976b01707bf864a445d2b4aec4efeab4a0f520eeeffdaad8a0b485"), looks := false }, kinds := [], alts := [], laidByText := true, laidKinds := [.data], laidTests := true, laidLooks := .later }
def BytesetClassesUptoCardSaid : Prop := Claim7.holds Tryd.pinned (.plain (OpenSpec.upto bytesetClassesSpec)) bytesetClassesUptoCard

/-- THE SECOND FORM's CARD OF 'bosketlaw02.BytesetTells'. -/
def bytesetTellsUptoCard : Claim7 := { stood := { row := bytesetTellsUptoRow, standIns := [], harness := (true, "d1451874c2976b01707bf864a445d2b4aec4efeab4a0f520eeeffdaad8a0b485"), looks := false }, kinds := [], alts := [], laidByText := true, laidKinds := [.data], laidTests := true, laidLooks := .later }
def BytesetTellsUptoCardSaid : Prop := Claim7.holds Tryd.pinned (.plain (OpenSpec.upto bytesetTellsSpec)) bytesetTellsUptoCard
end Rows
end Go.Proofs.YthfongdjcpmpfaaDoor
