/-
  No cell of these rows narrows 'for every input' (looked for: loops, veiled, ifaces, maps, wideKeys, modest, calm, conditions, laid).
  DERIVED. THE GIVEN ROWS OF THIS SEAT. 9 by the template 'for every input the law returns true; each argument reads behind the call as it read before'; 0 by the template 'total and deterministic' (their statements: YthfongdjcpmpfaaTotals.lean).
  GIVEN WITH THE SEED: the statements are not yours to turn. If you find one false, say at which input.
  Laid BY PROGRAM, IN A SANDBOX (cutbox-rows.mjs): the forced cells as the released guide's own fill.sh prints them over the translation 94972e52cc7d049f… (all of the seat's roots in one cut). By AI agents, Wed Nov 11 2026. No macro, syntax, notation, axiom, sorry.
-/
import Derived.Test.YthfongdjcpmpfaaChecked
import GoSem.Claim
import GoSem.ClaimJoined
import GoSem.ClaimMapViews
import Derived.JoinedTies
import Derived.KernelRfl
namespace Go.Proofs.Ythfongdjcpmpfaa
/- THE CELL 'sum', in the pinned program and in every row, IS THE sha256 OF THE DUMP (.gsa) THAT YthfongdjcpmpfaaProg.lean LOADS. Nothing in Lean hashes anything: it is a label: what it is worth is what the hold of that sum in a sandbox is worth. -/
noncomputable def Try.pinned : Pinned := { name := "ythfongdjcpmpfaa", sum := "94972e52cc7d049fb8923953c9f27fbf721c95aa2bc61b2292bf7a59b9433392", checked := Try.checked }
namespace Rows
def none {H : Type} : Left H := { results := [], args := [] }

/-- 'bosketlaw12.MunchLongest': WHATEVER THE INPUT: true; the input reads as it did. -/
def munchLongestSpec : ChangeSpec := { name := "munchLongest", fn := fun _ => fun
  | [d1, d2, d3] => { results := [.lit (.bool true)], args := [d1, d2, d3] }
  | _ => none }
def munchLongestRow : OpenClaim := { program := "ythfongdjcpmpfaa", sum := "94972e52cc7d049fb8923953c9f27fbf721c95aa2bc61b2292bf7a59b9433392", func := "bosket/bosketlaw12.MunchLongest", spec := "munchLongest", apart := false }
def MunchLongestSaid : Prop := munchLongestRow.holds Try.pinned (OpenSpec.ofChange munchLongestSpec)

/-- ITS FALSE NEIGHBOUR: 'it returns false'. Refute it at one input. -/
def munchLongestWrong : ChangeSpec := { name := "munchLongest", fn := fun _ => fun
  | [d1, d2, d3] => { results := [.lit (.bool false)], args := [d1, d2, d3] }
  | _ => none }
def MunchLongestWrongFalsely : Prop := munchLongestRow.holds Try.pinned (OpenSpec.ofChange munchLongestWrong)

/-- 'bosketlaw12.MunchSure': WHATEVER THE INPUT: true; the input reads as it did. -/
def munchSureSpec : ChangeSpec := { name := "munchSure", fn := fun _ => fun
  | [d1, d2, d3] => { results := [.lit (.bool true)], args := [d1, d2, d3] }
  | _ => none }
def munchSureRow : OpenClaim := { program := "ythfongdjcpmpfaa", sum := "94972e52cc7d049fb8923953c9f27fbf721c95aa2bc61b2292bf7a59b9433392", func := "bosket/bosketlaw12.MunchSure", spec := "munchSure", apart := false }
def MunchSureSaid : Prop := munchSureRow.holds Try.pinned (OpenSpec.ofChange munchSureSpec)

/-- ITS FALSE NEIGHBOUR: 'it returns false'. Refute it at one input. -/
def munchSureWrong : ChangeSpec := { name := "munchSure", fn := fun _ => fun
  | [d1, d2, d3] => { results := [.lit (.bool false)], args := [d1, d2, d3] }
  | _ => none }
def MunchSureWrongFalsely : Prop := munchSureRow.holds Try.pinned (OpenSpec.ofChange munchSureWrong)

/-- 'bosketlaw16.SymbolsOf': WHATEVER THE INPUT: true; the input reads as it did. -/
def symbolsOfSpec : ChangeSpec := { name := "symbolsOf", fn := fun _ => fun
  | [d] => { results := [.lit (.bool true)], args := [d] }
  | _ => none }
def symbolsOfRow : OpenClaim := { program := "ythfongdjcpmpfaa", sum := "94972e52cc7d049fb8923953c9f27fbf721c95aa2bc61b2292bf7a59b9433392", func := "bosket/bosketlaw16.SymbolsOf", spec := "symbolsOf", apart := false }
def SymbolsOfSaid : Prop := symbolsOfRow.holds Try.pinned (OpenSpec.ofChange symbolsOfSpec)

/-- ITS FALSE NEIGHBOUR: 'it returns false'. Refute it at one input. -/
def symbolsOfWrong : ChangeSpec := { name := "symbolsOf", fn := fun _ => fun
  | [d] => { results := [.lit (.bool false)], args := [d] }
  | _ => none }
def SymbolsOfWrongFalsely : Prop := symbolsOfRow.holds Try.pinned (OpenSpec.ofChange symbolsOfWrong)

/-- 'bosketlaw16.SymbolsPlays': WHATEVER THE INPUT: true; the input reads as it did. -/
def symbolsPlaysSpec : ChangeSpec := { name := "symbolsPlays", fn := fun _ => fun
  | [d1, d2, d3] => { results := [.lit (.bool true)], args := [d1, d2, d3] }
  | _ => none }
def symbolsPlaysRow : OpenClaim := { program := "ythfongdjcpmpfaa", sum := "94972e52cc7d049fb8923953c9f27fbf721c95aa2bc61b2292bf7a59b9433392", func := "bosket/bosketlaw16.SymbolsPlays", spec := "symbolsPlays", apart := false }
def SymbolsPlaysSaid : Prop := symbolsPlaysRow.holds Try.pinned (OpenSpec.ofChange symbolsPlaysSpec)

/-- ITS FALSE NEIGHBOUR: 'it returns false'. Refute it at one input. -/
def symbolsPlaysWrong : ChangeSpec := { name := "symbolsPlays", fn := fun _ => fun
  | [d1, d2, d3] => { results := [.lit (.bool false)], args := [d1, d2, d3] }
  | _ => none }
def SymbolsPlaysWrongFalsely : Prop := symbolsPlaysRow.holds Try.pinned (OpenSpec.ofChange symbolsPlaysWrong)

/-- 'bosketlaw12.MunchAll': WHATEVER THE INPUT: true; the input reads as it did. -/
def munchAllSpec : ChangeSpec := { name := "munchAll", fn := fun _ => fun
  | [d1, d2] => { results := [.lit (.bool true)], args := [d1, d2] }
  | _ => none }
def munchAllRow : OpenClaim := { program := "ythfongdjcpmpfaa", sum := "94972e52cc7d049fb8923953c9f27fbf721c95aa2bc61b2292bf7a59b9433392", func := "bosket/bosketlaw12.MunchAll", spec := "munchAll", apart := false }
def MunchAllSaid : Prop := munchAllRow.holds Try.pinned (OpenSpec.ofChange munchAllSpec)

/-- ITS FALSE NEIGHBOUR: 'it returns false'. Refute it at one input. -/
def munchAllWrong : ChangeSpec := { name := "munchAll", fn := fun _ => fun
  | [d1, d2] => { results := [.lit (.bool false)], args := [d1, d2] }
  | _ => none }
def MunchAllWrongFalsely : Prop := munchAllRow.holds Try.pinned (OpenSpec.ofChange munchAllWrong)

/-- 'bosketlaw12.MunchSame': WHATEVER THE INPUT: true; the input reads as it did. -/
def munchSameSpec : ChangeSpec := { name := "munchSame", fn := fun _ => fun
  | [d1, d2] => { results := [.lit (.bool true)], args := [d1, d2] }
  | _ => none }
def munchSameRow : OpenClaim := { program := "ythfongdjcpmpfaa", sum := "94972e52cc7d049fb8923953c9f27fbf721c95aa2bc61b2292bf7a59b9433392", func := "bosket/bosketlaw12.MunchSame", spec := "munchSame", apart := false }
def MunchSameSaid : Prop := munchSameRow.holds Try.pinned (OpenSpec.ofChange munchSameSpec)

/-- ITS FALSE NEIGHBOUR: 'it returns false'. Refute it at one input. -/
def munchSameWrong : ChangeSpec := { name := "munchSame", fn := fun _ => fun
  | [d1, d2] => { results := [.lit (.bool false)], args := [d1, d2] }
  | _ => none }
def MunchSameWrongFalsely : Prop := munchSameRow.holds Try.pinned (OpenSpec.ofChange munchSameWrong)

/-- 'bosketlaw03.EscapeNames': WHATEVER THE INPUT: true; the input reads as it did. -/
def escapeNamesSpec : ChangeSpec := { name := "escapeNames", fn := fun _ => fun
  | [d1, d2] => { results := [.lit (.bool true)], args := [d1, d2] }
  | _ => none }
def escapeNamesRow : OpenClaim := { program := "ythfongdjcpmpfaa", sum := "94972e52cc7d049fb8923953c9f27fbf721c95aa2bc61b2292bf7a59b9433392", func := "bosket/bosketlaw03.EscapeNames", spec := "escapeNames", apart := false }
def EscapeNamesSaid : Prop := escapeNamesRow.holds Try.pinned (OpenSpec.ofChange escapeNamesSpec)

/-- ITS FALSE NEIGHBOUR: 'it returns false'. Refute it at one input. -/
def escapeNamesWrong : ChangeSpec := { name := "escapeNames", fn := fun _ => fun
  | [d1, d2] => { results := [.lit (.bool false)], args := [d1, d2] }
  | _ => none }
def EscapeNamesWrongFalsely : Prop := escapeNamesRow.holds Try.pinned (OpenSpec.ofChange escapeNamesWrong)

/-- 'bosketlaw03.EscapeBytes': WHATEVER THE INPUT: true; the input reads as it did. -/
def escapeBytesSpec : ChangeSpec := { name := "escapeBytes", fn := fun _ => fun
  | [d1, d2, d3] => { results := [.lit (.bool true)], args := [d1, d2, d3] }
  | _ => none }
def escapeBytesRow : OpenClaim := { program := "ythfongdjcpmpfaa", sum := "94972e52cc7d049fb8923953c9f27fbf721c95aa2bc61b2292bf7a59b9433392", func := "bosket/bosketlaw03.EscapeBytes", spec := "escapeBytes", apart := false }
def EscapeBytesSaid : Prop := escapeBytesRow.holds Try.pinned (OpenSpec.ofChange escapeBytesSpec)

/-- ITS FALSE NEIGHBOUR: 'it returns false'. Refute it at one input. -/
def escapeBytesWrong : ChangeSpec := { name := "escapeBytes", fn := fun _ => fun
  | [d1, d2, d3] => { results := [.lit (.bool false)], args := [d1, d2, d3] }
  | _ => none }
def EscapeBytesWrongFalsely : Prop := escapeBytesRow.holds Try.pinned (OpenSpec.ofChange escapeBytesWrong)

/-- 'bosketlaw03.EscapeQuotes': WHATEVER THE INPUT: true; the input reads as it did. -/
def escapeQuotesSpec : ChangeSpec := { name := "escapeQuotes", fn := fun _ => fun
  | [d1, d2, d3] => { results := [.lit (.bool true)], args := [d1, d2, d3] }
  | _ => none }
def escapeQuotesRow : OpenClaim := { program := "ythfongdjcpmpfaa", sum := "94972e52cc7d049fb8923953c9f27fbf721c95aa2bc61b2292bf7a59b9433392", func := "bosket/bosketlaw03.EscapeQuotes", spec := "escapeQuotes", apart := false }
def EscapeQuotesSaid : Prop := escapeQuotesRow.holds Try.pinned (OpenSpec.ofChange escapeQuotesSpec)

/-- ITS FALSE NEIGHBOUR: 'it returns false'. Refute it at one input. -/
def escapeQuotesWrong : ChangeSpec := { name := "escapeQuotes", fn := fun _ => fun
  | [d1, d2, d3] => { results := [.lit (.bool false)], args := [d1, d2, d3] }
  | _ => none }
def EscapeQuotesWrongFalsely : Prop := escapeQuotesRow.holds Try.pinned (OpenSpec.ofChange escapeQuotesWrong)

/- THE SECOND FORM. 'bulk': how many values and letters a reading holds, each counted each time it is reached (what is shared counts as often as it is met; a slice's spare places count too). A statement '..UptoSaid' is the law's where the arguments, and the package variables that the reading takes, are together of bulk at most 1048576: NARROWER than '..Said'. Prove '..Said' where nothing that the law and all that it calls make is longer than what came in: it says more and counts as full. Else prove '..UptoSaid'. A law counts once. -/
mutual
def uptoBulk {H : Type} : DataW H → Nat
  | .lit (.string bytes) => bytes.length + 1
  | .lit _ => 1
  | .nil => 1
  | .ptr d => uptoBulk d + 1
  | .slice elems spare => uptoBulkAll elems + uptoBulkAll spare + 1
  | .agg parts => uptoBulkAll parts + 1
  | .iface _ d => uptoBulk d + 1
  | .map entries => uptoBulkEntries entries + 1
  | .held _ => 1
def uptoBulkAll {H : Type} : List (DataW H) → Nat
  | [] => 0
  | d :: r => uptoBulk d + uptoBulkAll r
def uptoBulkEntries {H : Type} : List (Lit × DataW H) → Nat
  | [] => 0
  | x :: r => uptoBulkEntry x + uptoBulkEntries r
def uptoBulkEntry {H : Type} : Lit × DataW H → Nat
  | (.string bytes, d) => bytes.length + uptoBulk d + 1
  | (_, d) => uptoBulk d + 1
 end
def uptoSmall : (H : Type) → List (DataW H) → Bool := fun _ ds => decide (uptoBulkAll ds ≤ 1048576)
def OpenSpec.upto (s : _root_.Go.ChangeSpec) : _root_.Go.OpenSpec := { _root_.Go.OpenSpec.ofChange s with cond := some uptoSmall }

/-- 'bosketlaw12.MunchLongest', WHERE WHAT IT READS IS OF BULK AT MOST 1048576: true; the input reads as it did. -/
def munchLongestUptoRow : OpenClaim := { program := "ythfongdjcpmpfaa", sum := "94972e52cc7d049fb8923953c9f27fbf721c95aa2bc61b2292bf7a59b9433392", func := "bosket/bosketlaw12.MunchLongest", spec := "munchLongest", apart := false, narrowed := true }
def MunchLongestUptoSaid : Prop := munchLongestUptoRow.holds Try.pinned (OpenSpec.upto munchLongestSpec)

/-- 'bosketlaw12.MunchSure', WHERE WHAT IT READS IS OF BULK AT MOST 1048576: true; the input reads as it did. -/
def munchSureUptoRow : OpenClaim := { program := "ythfongdjcpmpfaa", sum := "94972e52cc7d049fb8923953c9f27fbf721c95aa2bc61b2292bf7a59b9433392", func := "bosket/bosketlaw12.MunchSure", spec := "munchSure", apart := false, narrowed := true }
def MunchSureUptoSaid : Prop := munchSureUptoRow.holds Try.pinned (OpenSpec.upto munchSureSpec)

/-- 'bosketlaw16.SymbolsOf', WHERE WHAT IT READS IS OF BULK AT MOST 1048576: true; the input reads as it did. -/
def symbolsOfUptoRow : OpenClaim := { program := "ythfongdjcpmpfaa", sum := "94972e52cc7d049fb8923953c9f27fbf721c95aa2bc61b2292bf7a59b9433392", func := "bosket/bosketlaw16.SymbolsOf", spec := "symbolsOf", apart := false, narrowed := true }
def SymbolsOfUptoSaid : Prop := symbolsOfUptoRow.holds Try.pinned (OpenSpec.upto symbolsOfSpec)

/-- 'bosketlaw16.SymbolsPlays', WHERE WHAT IT READS IS OF BULK AT MOST 1048576: true; the input reads as it did. -/
def symbolsPlaysUptoRow : OpenClaim := { program := "ythfongdjcpmpfaa", sum := "94972e52cc7d049fb8923953c9f27fbf721c95aa2bc61b2292bf7a59b9433392", func := "bosket/bosketlaw16.SymbolsPlays", spec := "symbolsPlays", apart := false, narrowed := true }
def SymbolsPlaysUptoSaid : Prop := symbolsPlaysUptoRow.holds Try.pinned (OpenSpec.upto symbolsPlaysSpec)

/-- 'bosketlaw12.MunchAll', WHERE WHAT IT READS IS OF BULK AT MOST 1048576: true; the input reads as it did. -/
def munchAllUptoRow : OpenClaim := { program := "ythfongdjcpmpfaa", sum := "94972e52cc7d049fb8923953c9f27fbf721c95aa2bc61b2292bf7a59b9433392", func := "bosket/bosketlaw12.MunchAll", spec := "munchAll", apart := false, narrowed := true }
def MunchAllUptoSaid : Prop := munchAllUptoRow.holds Try.pinned (OpenSpec.upto munchAllSpec)

/-- 'bosketlaw12.MunchSame', WHERE WHAT IT READS IS OF BULK AT MOST 1048576: true; the input reads as it did. -/
def munchSameUptoRow : OpenClaim := { program := "ythfongdjcpmpfaa", sum := "94972e52cc7d049fb8923953c9f27fbf721c95aa2bc61b2292bf7a59b9433392", func := "bosket/bosketlaw12.MunchSame", spec := "munchSame", apart := false, narrowed := true }
def MunchSameUptoSaid : Prop := munchSameUptoRow.holds Try.pinned (OpenSpec.upto munchSameSpec)

/-- 'bosketlaw03.EscapeNames', WHERE WHAT IT READS IS OF BULK AT MOST 1048576: true; the input reads as it did. -/
def escapeNamesUptoRow : OpenClaim := { program := "ythfongdjcpmpfaa", sum := "94972e52cc7d049fb8923953c9f27fbf721c95aa2bc61b2292bf7a59b9433392", func := "bosket/bosketlaw03.EscapeNames", spec := "escapeNames", apart := false, narrowed := true }
def EscapeNamesUptoSaid : Prop := escapeNamesUptoRow.holds Try.pinned (OpenSpec.upto escapeNamesSpec)

/-- 'bosketlaw03.EscapeBytes', WHERE WHAT IT READS IS OF BULK AT MOST 1048576: true; the input reads as it did. -/
def escapeBytesUptoRow : OpenClaim := { program := "ythfongdjcpmpfaa", sum := "94972e52cc7d049fb8923953c9f27fbf721c95aa2bc61b2292bf7a59b9433392", func := "bosket/bosketlaw03.EscapeBytes", spec := "escapeBytes", apart := false, narrowed := true }
def EscapeBytesUptoSaid : Prop := escapeBytesUptoRow.holds Try.pinned (OpenSpec.upto escapeBytesSpec)

/-- 'bosketlaw03.EscapeQuotes', WHERE WHAT IT READS IS OF BULK AT MOST 1048576: true; the input reads as it did. -/
def escapeQuotesUptoRow : OpenClaim := { program := "ythfongdjcpmpfaa", sum := "94972e52cc7d049fb8923953c9f27fbf721c95aa2bc61b2292bf7a59b9433392", func := "bosket/bosketlaw03.EscapeQuotes", spec := "escapeQuotes", apart := false, narrowed := true }
def EscapeQuotesUptoSaid : Prop := escapeQuotesUptoRow.holds Try.pinned (OpenSpec.upto escapeQuotesSpec)

end Rows
end Go.Proofs.Ythfongdjcpmpfaa
