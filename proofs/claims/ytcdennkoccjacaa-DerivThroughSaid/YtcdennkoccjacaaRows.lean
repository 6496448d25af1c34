/-
  No cell of these rows narrows 'for every input' (looked for: loops, veiled, ifaces, maps, wideKeys, modest, calm, conditions, laid).
  DERIVED. THE GIVEN ROWS OF THIS SEAT. 6 by the template 'for every input the law returns true; each argument reads behind the call as it read before'; 0 by the template 'total and deterministic' (their statements: YtcdennkoccjacaaTotals.lean).
  GIVEN WITH THE SEED: the statements are not yours to turn. If you find one false, say at which input.
  Laid BY PROGRAM, IN A SANDBOX (cutbox-rows.mjs): the forced cells as the released guide's own fill.sh prints them over the translation da033508b95108d6… (all of the seat's roots in one cut). By AI agents, Wed Nov 11 2026. No macro, syntax, notation, axiom, sorry.
-/
import Derived.Test.YtcdennkoccjacaaChecked
import GoSem.Claim
import GoSem.ClaimJoined
import GoSem.ClaimMapViews
import Derived.JoinedTies
import Derived.KernelRfl
namespace Go.Proofs.Ytcdennkoccjacaa
/- THE CELL 'sum', in the pinned program and in every row, IS THE sha256 OF THE DUMP (.gsa) THAT YtcdennkoccjacaaProg.lean LOADS. Nothing in Lean hashes anything: it is a label: what it is worth is what the hold of that sum in a sandbox is worth. -/
noncomputable def Try.pinned : Pinned := { name := "ytcdennkoccjacaa", sum := "da033508b95108d6cb846cc887fffd1c0533a1f0452f5f64f196d8d208215643", checked := Try.checked }
namespace Rows
def none {H : Type} : Left H := { results := [], args := [] }

/-- 'bosketlaw06.NfaSteps': WHATEVER THE INPUT: true; the input reads as it did. -/
def nfaStepsSpec : ChangeSpec := { name := "nfaSteps", fn := fun _ => fun
  | [d1, d2, d3] => { results := [.lit (.bool true)], args := [d1, d2, d3] }
  | _ => none }
def nfaStepsRow : OpenClaim := { program := "ytcdennkoccjacaa", sum := "da033508b95108d6cb846cc887fffd1c0533a1f0452f5f64f196d8d208215643", func := "bosket/bosketlaw06.NfaSteps", spec := "nfaSteps", apart := false }
def NfaStepsSaid : Prop := nfaStepsRow.holds Try.pinned (OpenSpec.ofChange nfaStepsSpec)

/-- ITS FALSE NEIGHBOUR: 'it returns false'. Refute it at one input. -/
def nfaStepsWrong : ChangeSpec := { name := "nfaSteps", fn := fun _ => fun
  | [d1, d2, d3] => { results := [.lit (.bool false)], args := [d1, d2, d3] }
  | _ => none }
def NfaStepsWrongFalsely : Prop := nfaStepsRow.holds Try.pinned (OpenSpec.ofChange nfaStepsWrong)

/-- 'bosketlaw06.NfaUnions': WHATEVER THE INPUT: true; the input reads as it did. -/
def nfaUnionsSpec : ChangeSpec := { name := "nfaUnions", fn := fun _ => fun
  | [d1, d2] => { results := [.lit (.bool true)], args := [d1, d2] }
  | _ => none }
def nfaUnionsRow : OpenClaim := { program := "ytcdennkoccjacaa", sum := "da033508b95108d6cb846cc887fffd1c0533a1f0452f5f64f196d8d208215643", func := "bosket/bosketlaw06.NfaUnions", spec := "nfaUnions", apart := false }
def NfaUnionsSaid : Prop := nfaUnionsRow.holds Try.pinned (OpenSpec.ofChange nfaUnionsSpec)

/-- ITS FALSE NEIGHBOUR: 'it returns false'. Refute it at one input. -/
def nfaUnionsWrong : ChangeSpec := { name := "nfaUnions", fn := fun _ => fun
  | [d1, d2] => { results := [.lit (.bool false)], args := [d1, d2] }
  | _ => none }
def NfaUnionsWrongFalsely : Prop := nfaUnionsRow.holds Try.pinned (OpenSpec.ofChange nfaUnionsWrong)

/-- 'bosketlaw08.DfaKeeps': WHATEVER THE INPUT: true; the input reads as it did. -/
def dfaKeepsSpec : ChangeSpec := { name := "dfaKeeps", fn := fun _ => fun
  | [d1, d2, d3] => { results := [.lit (.bool true)], args := [d1, d2, d3] }
  | _ => none }
def dfaKeepsRow : OpenClaim := { program := "ytcdennkoccjacaa", sum := "da033508b95108d6cb846cc887fffd1c0533a1f0452f5f64f196d8d208215643", func := "bosket/bosketlaw08.DfaKeeps", spec := "dfaKeeps", unfollowed := true, recurses := true, apart := false }
def DfaKeepsSaid : Prop := dfaKeepsRow.holds Try.pinned (OpenSpec.ofChange dfaKeepsSpec)

/-- ITS FALSE NEIGHBOUR: 'it returns false'. Refute it at one input. -/
def dfaKeepsWrong : ChangeSpec := { name := "dfaKeeps", fn := fun _ => fun
  | [d1, d2, d3] => { results := [.lit (.bool false)], args := [d1, d2, d3] }
  | _ => none }
def DfaKeepsWrongFalsely : Prop := dfaKeepsRow.holds Try.pinned (OpenSpec.ofChange dfaKeepsWrong)

/-- 'bosketlaw05.DerivThrough': WHATEVER THE INPUT: true; the input reads as it did. -/
def derivThroughSpec : ChangeSpec := { name := "derivThrough", fn := fun _ => fun
  | [d1, d2, d3] => { results := [.lit (.bool true)], args := [d1, d2, d3] }
  | _ => none }
def derivThroughRow : OpenClaim := { program := "ytcdennkoccjacaa", sum := "da033508b95108d6cb846cc887fffd1c0533a1f0452f5f64f196d8d208215643", func := "bosket/bosketlaw05.DerivThrough", spec := "derivThrough", recurses := true, apart := false }
def DerivThroughSaid : Prop := derivThroughRow.holds Try.pinned (OpenSpec.ofChange derivThroughSpec)

/-- ITS FALSE NEIGHBOUR: 'it returns false'. Refute it at one input. -/
def derivThroughWrong : ChangeSpec := { name := "derivThrough", fn := fun _ => fun
  | [d1, d2, d3] => { results := [.lit (.bool false)], args := [d1, d2, d3] }
  | _ => none }
def DerivThroughWrongFalsely : Prop := derivThroughRow.holds Try.pinned (OpenSpec.ofChange derivThroughWrong)

/-- 'bosketlaw08.DfaReaches': WHATEVER THE INPUT: true; the input reads as it did. -/
def dfaReachesSpec : ChangeSpec := { name := "dfaReaches", fn := fun _ => fun
  | [d1, d2] => { results := [.lit (.bool true)], args := [d1, d2] }
  | _ => none }
def dfaReachesRow : OpenClaim := { program := "ytcdennkoccjacaa", sum := "da033508b95108d6cb846cc887fffd1c0533a1f0452f5f64f196d8d208215643", func := "bosket/bosketlaw08.DfaReaches", spec := "dfaReaches", unfollowed := true, recurses := true, apart := false }
def DfaReachesSaid : Prop := dfaReachesRow.holds Try.pinned (OpenSpec.ofChange dfaReachesSpec)

/-- ITS FALSE NEIGHBOUR: 'it returns false'. Refute it at one input. -/
def dfaReachesWrong : ChangeSpec := { name := "dfaReaches", fn := fun _ => fun
  | [d1, d2] => { results := [.lit (.bool false)], args := [d1, d2] }
  | _ => none }
def DfaReachesWrongFalsely : Prop := dfaReachesRow.holds Try.pinned (OpenSpec.ofChange dfaReachesWrong)

/-- 'bosketlaw05.DerivFirst': WHATEVER THE INPUT: true; the input reads as it did. -/
def derivFirstSpec : ChangeSpec := { name := "derivFirst", fn := fun _ => fun
  | [d1, d2] => { results := [.lit (.bool true)], args := [d1, d2] }
  | _ => none }
def derivFirstRow : OpenClaim := { program := "ytcdennkoccjacaa", sum := "da033508b95108d6cb846cc887fffd1c0533a1f0452f5f64f196d8d208215643", func := "bosket/bosketlaw05.DerivFirst", spec := "derivFirst", recurses := true, apart := false }
def DerivFirstSaid : Prop := derivFirstRow.holds Try.pinned (OpenSpec.ofChange derivFirstSpec)

/-- ITS FALSE NEIGHBOUR: 'it returns false'. Refute it at one input. -/
def derivFirstWrong : ChangeSpec := { name := "derivFirst", fn := fun _ => fun
  | [d1, d2] => { results := [.lit (.bool false)], args := [d1, d2] }
  | _ => none }
def DerivFirstWrongFalsely : Prop := derivFirstRow.holds Try.pinned (OpenSpec.ofChange derivFirstWrong)

/- THE SECOND FORM. 'bulk': how many values and letters a reading holds, each counted each time it is reached (what is shared counts as often as it is met; a slice's spare places count too). A statement '..UptoSaid' is the law's where the arguments, and the package variables that the reading takes, are together of bulk at most 1048576: NARROWER than '..Said'. Prove '..Said' where nothing that the law and all that it calls make is longer than what came in: it says more and counts as full. Else prove '..UptoSaid'. A law counts once. -/
mutual
def uptoBulk {H : Type} : DataW H → Nat
  | .lit (.string bytes) => bytes.length + 1
  | .lit _ => 1
  | .nil => 1
  | .ptr d => uptoBulk d + 1
  | .slice elems spare => uptoBulkAll elems + uptoBulkAll spare + 1
  | .agg parts => uptoBulkAll parts + 1
  | .iface _ d => uptoBulk d + 1
  | .map entries => uptoBulkEntries entries + 1
  | .held _ => 1
def uptoBulkAll {H : Type} : List (DataW H) → Nat
  | [] => 0
  | d :: r => uptoBulk d + uptoBulkAll r
def uptoBulkEntries {H : Type} : List (Lit × DataW H) → Nat
  | [] => 0
  | x :: r => uptoBulkEntry x + uptoBulkEntries r
def uptoBulkEntry {H : Type} : Lit × DataW H → Nat
  | (.string bytes, d) => bytes.length + uptoBulk d + 1
  | (_, d) => uptoBulk d + 1
 end
def uptoSmall : (H : Type) → List (DataW H) → Bool := fun _ ds => decide (uptoBulkAll ds ≤ 1048576)
def OpenSpec.upto (s : _root_.Go.ChangeSpec) : _root_.Go.OpenSpec := { _root_.Go.OpenSpec.ofChange s with cond := some uptoSmall }

/-- 'bosketlaw06.NfaSteps', WHERE WHAT IT READS IS OF BULK AT MOST 1048576: true; the input reads as it did. -/
def nfaStepsUptoRow : OpenClaim := { program := "ytcdennkoccjacaa", sum := "da033508b95108d6cb846cc887fffd1c0533a1f0452f5f64f196d8d208215643", func := "bosket/bosketlaw06.NfaSteps", spec := "nfaSteps", apart := false, narrowed := true }
def NfaStepsUptoSaid : Prop := nfaStepsUptoRow.holds Try.pinned (OpenSpec.upto nfaStepsSpec)

/-- 'bosketlaw06.NfaUnions', WHERE WHAT IT READS IS OF BULK AT MOST 1048576: true; the input reads as it did. -/
def nfaUnionsUptoRow : OpenClaim := { program := "ytcdennkoccjacaa", sum := "da033508b95108d6cb846cc887fffd1c0533a1f0452f5f64f196d8d208215643", func := "bosket/bosketlaw06.NfaUnions", spec := "nfaUnions", apart := false, narrowed := true }
def NfaUnionsUptoSaid : Prop := nfaUnionsUptoRow.holds Try.pinned (OpenSpec.upto nfaUnionsSpec)

/-- 'bosketlaw08.DfaKeeps', WHERE WHAT IT READS IS OF BULK AT MOST 1048576: true; the input reads as it did. -/
def dfaKeepsUptoRow : OpenClaim := { program := "ytcdennkoccjacaa", sum := "da033508b95108d6cb846cc887fffd1c0533a1f0452f5f64f196d8d208215643", func := "bosket/bosketlaw08.DfaKeeps", spec := "dfaKeeps", unfollowed := true, recurses := true, apart := false, narrowed := true }
def DfaKeepsUptoSaid : Prop := dfaKeepsUptoRow.holds Try.pinned (OpenSpec.upto dfaKeepsSpec)

/-- 'bosketlaw05.DerivThrough', WHERE WHAT IT READS IS OF BULK AT MOST 1048576: true; the input reads as it did. -/
def derivThroughUptoRow : OpenClaim := { program := "ytcdennkoccjacaa", sum := "da033508b95108d6cb846cc887fffd1c0533a1f0452f5f64f196d8d208215643", func := "bosket/bosketlaw05.DerivThrough", spec := "derivThrough", recurses := true, apart := false, narrowed := true }
def DerivThroughUptoSaid : Prop := derivThroughUptoRow.holds Try.pinned (OpenSpec.upto derivThroughSpec)

/-- 'bosketlaw08.DfaReaches', WHERE WHAT IT READS IS OF BULK AT MOST 1048576: true; the input reads as it did. -/
def dfaReachesUptoRow : OpenClaim := { program := "ytcdennkoccjacaa", sum := "da033508b95108d6cb846cc887fffd1c0533a1f0452f5f64f196d8d208215643", func := "bosket/bosketlaw08.DfaReaches", spec := "dfaReaches", unfollowed := true, recurses := true, apart := false, narrowed := true }
def DfaReachesUptoSaid : Prop := dfaReachesUptoRow.holds Try.pinned (OpenSpec.upto dfaReachesSpec)

/-- 'bosketlaw05.DerivFirst', WHERE WHAT IT READS IS OF BULK AT MOST 1048576: true; the input reads as it did. -/
def derivFirstUptoRow : OpenClaim := { program := "ytcdennkoccjacaa", sum := "da033508b95108d6cb846cc887fffd1c0533a1f0452f5f64f196d8d208215643", func := "bosket/bosketlaw05.DerivFirst", spec := "derivFirst", recurses := true, apart := false, narrowed := true }
def DerivFirstUptoSaid : Prop := derivFirstUptoRow.holds Try.pinned (OpenSpec.upto derivFirstSpec)

end Rows
end Go.Proofs.Ytcdennkoccjacaa
