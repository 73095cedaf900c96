/-
  No cell of these rows narrows 'for every input' (looked for: loops, veiled, ifaces, maps, wideKeys, modest, calm, conditions, laid).
  DERIVED. THE GIVEN ROWS OF THIS SEAT. 4 by the template 'for every input the law returns true; each argument reads behind the call as it read before'; 0 by the template 'total and deterministic' (their statements: YtgeafnggodkpaaaGreatTotals.lean).
  GIVEN WITH THE SEED: the statements are not yours to turn. If you find one false, say at which input.
  Laid BY PROGRAM, IN A SANDBOX (cutbox-rows.mjs): the forced cells as the released guide's own fill.sh prints them over the translation 47d2d85ed3fc6a7b… (all of the seat's roots in one cut). By AI agents, Wed Nov 11 2026. No macro, syntax, notation, axiom, sorry.
-/
import Derived.Test.YtgeafnggodkpaaaGreatChecked
import GoSem.Claim
import GoSem.ClaimJoined
import GoSem.ClaimMapViews
import Derived.JoinedTies
import Derived.KernelRfl
namespace Go.Proofs.YtgeafnggodkpaaaGreat
/- THE CELL 'sum', in the pinned program and in every row, IS THE sha256 OF THE DUMP (.gsa) THAT YtgeafnggodkpaaaGreatProg.lean LOADS. Nothing in Lean hashes anything: it is a label: what it is worth is what the hold of that sum in a sandbox is worth. -/
noncomputable def Tryz.pinned : Pinned := { name := "ytgeafnggodkpaaagreat", sum := "47d2d85ed3fc6a7b0a243508c8231ab52d34d5aff053a316d03bda7be6a46e33", checked := Tryz.checked }
namespace Rows
def none {H : Type} : Left H := { results := [], args := [] }

/-- 'blazonlaw23.MessageOps': WHATEVER THE INPUT: true; the input reads as it did. -/
def messageOpsSpec : ChangeSpec := { name := "messageOps", fn := fun _ => fun
  | [d1, d2, d3] => { results := [.lit (.bool true)], args := [d1, d2, d3] }
  | _ => none }
def messageOpsRow : OpenClaim := { program := "ytgeafnggodkpaaagreat", sum := "47d2d85ed3fc6a7b0a243508c8231ab52d34d5aff053a316d03bda7be6a46e33", func := "blazon/blazonlaw23.MessageOps", spec := "messageOps", inPlace := ["internal/bytealg.abigen_runtime_cmpstring"], unfollowed := true, recurses := true, apart := false }
def MessageOpsSaid : Prop := messageOpsRow.holds Tryz.pinned (OpenSpec.ofChange messageOpsSpec)

/-- ITS FALSE NEIGHBOUR: 'it returns false'. Refute it at one input. -/
def messageOpsWrong : ChangeSpec := { name := "messageOps", fn := fun _ => fun
  | [d1, d2, d3] => { results := [.lit (.bool false)], args := [d1, d2, d3] }
  | _ => none }
def MessageOpsWrongFalsely : Prop := messageOpsRow.holds Tryz.pinned (OpenSpec.ofChange messageOpsWrong)

/-- 'blazonlaw23.MessageRequests': WHATEVER THE INPUT: true; the input reads as it did. -/
def messageRequestsSpec : ChangeSpec := { name := "messageRequests", fn := fun _ => fun
  | [d1, d2, d3] => { results := [.lit (.bool true)], args := [d1, d2, d3] }
  | _ => none }
def messageRequestsRow : OpenClaim := { program := "ytgeafnggodkpaaagreat", sum := "47d2d85ed3fc6a7b0a243508c8231ab52d34d5aff053a316d03bda7be6a46e33", func := "blazon/blazonlaw23.MessageRequests", spec := "messageRequests", inPlace := ["internal/bytealg.abigen_runtime_cmpstring"], unfollowed := true, recurses := true, apart := false }
def MessageRequestsSaid : Prop := messageRequestsRow.holds Tryz.pinned (OpenSpec.ofChange messageRequestsSpec)

/-- ITS FALSE NEIGHBOUR: 'it returns false'. Refute it at one input. -/
def messageRequestsWrong : ChangeSpec := { name := "messageRequests", fn := fun _ => fun
  | [d1, d2, d3] => { results := [.lit (.bool false)], args := [d1, d2, d3] }
  | _ => none }
def MessageRequestsWrongFalsely : Prop := messageRequestsRow.holds Tryz.pinned (OpenSpec.ofChange messageRequestsWrong)

/-- 'blazonlaw23.MessageResults': WHATEVER THE INPUT: true; the input reads as it did. -/
def messageResultsSpec : ChangeSpec := { name := "messageResults", fn := fun _ => fun
  | [d1, d2, d3] => { results := [.lit (.bool true)], args := [d1, d2, d3] }
  | _ => none }
def messageResultsRow : OpenClaim := { program := "ytgeafnggodkpaaagreat", sum := "47d2d85ed3fc6a7b0a243508c8231ab52d34d5aff053a316d03bda7be6a46e33", func := "blazon/blazonlaw23.MessageResults", spec := "messageResults", inPlace := ["internal/bytealg.abigen_runtime_cmpstring"], unfollowed := true, recurses := true, apart := false }
def MessageResultsSaid : Prop := messageResultsRow.holds Tryz.pinned (OpenSpec.ofChange messageResultsSpec)

/-- ITS FALSE NEIGHBOUR: 'it returns false'. Refute it at one input. -/
def messageResultsWrong : ChangeSpec := { name := "messageResults", fn := fun _ => fun
  | [d1, d2, d3] => { results := [.lit (.bool false)], args := [d1, d2, d3] }
  | _ => none }
def MessageResultsWrongFalsely : Prop := messageResultsRow.holds Tryz.pinned (OpenSpec.ofChange messageResultsWrong)

/-- 'blazonlaw23.MessageBytes': WHATEVER THE INPUT: true; the input reads as it did. -/
def messageBytesSpec : ChangeSpec := { name := "messageBytes", fn := fun _ => fun
  | [d1, d2] => { results := [.lit (.bool true)], args := [d1, d2] }
  | _ => none }
def messageBytesRow : OpenClaim := { program := "ytgeafnggodkpaaagreat", sum := "47d2d85ed3fc6a7b0a243508c8231ab52d34d5aff053a316d03bda7be6a46e33", func := "blazon/blazonlaw23.MessageBytes", spec := "messageBytes", inPlace := ["internal/bytealg.abigen_runtime_cmpstring"], unfollowed := true, recurses := true, apart := false }
def MessageBytesSaid : Prop := messageBytesRow.holds Tryz.pinned (OpenSpec.ofChange messageBytesSpec)

/-- ITS FALSE NEIGHBOUR: 'it returns false'. Refute it at one input. -/
def messageBytesWrong : ChangeSpec := { name := "messageBytes", fn := fun _ => fun
  | [d1, d2] => { results := [.lit (.bool false)], args := [d1, d2] }
  | _ => none }
def MessageBytesWrongFalsely : Prop := messageBytesRow.holds Tryz.pinned (OpenSpec.ofChange messageBytesWrong)

/- THE SECOND FORM. 'bulk': how many values and letters a reading holds, each counted each time it is reached (what is shared counts as often as it is met; a slice's spare places count too). A statement '..UptoSaid' is the law's where the arguments, and the package variables that the reading takes, are together of bulk at most 1048576: NARROWER than '..Said'. Prove '..Said' where nothing that the law and all that it calls make is longer than what came in: it says more and counts as full. Else prove '..UptoSaid'. A law counts once. -/
mutual
def uptoBulk {H : Type} : DataW H → Nat
  | .lit (.string bytes) => bytes.length + 1
  | .lit _ => 1
  | .nil => 1
  | .ptr d => uptoBulk d + 1
  | .slice elems spare => uptoBulkAll elems + uptoBulkAll spare + 1
  | .agg parts => uptoBulkAll parts + 1
  | .iface _ d => uptoBulk d + 1
  | .map entries => uptoBulkEntries entries + 1
  | .held _ => 1
def uptoBulkAll {H : Type} : List (DataW H) → Nat
  | [] => 0
  | d :: r => uptoBulk d + uptoBulkAll r
def uptoBulkEntries {H : Type} : List (Lit × DataW H) → Nat
  | [] => 0
  | x :: r => uptoBulkEntry x + uptoBulkEntries r
def uptoBulkEntry {H : Type} : Lit × DataW H → Nat
  | (.string bytes, d) => bytes.length + uptoBulk d + 1
  | (_, d) => uptoBulk d + 1
 end
def uptoSmall : (H : Type) → List (DataW H) → Bool := fun _ ds => decide (uptoBulkAll ds ≤ 1048576)
def OpenSpec.upto (s : _root_.Go.ChangeSpec) : _root_.Go.OpenSpec := { _root_.Go.OpenSpec.ofChange s with cond := some uptoSmall }

/-- 'blazonlaw23.MessageOps', WHERE WHAT IT READS IS OF BULK AT MOST 1048576: true; the input reads as it did. -/
def messageOpsUptoRow : OpenClaim := { program := "ytgeafnggodkpaaagreat", sum := "47d2d85ed3fc6a7b0a243508c8231ab52d34d5aff053a316d03bda7be6a46e33", func := "blazon/blazonlaw23.MessageOps", spec := "messageOps", inPlace := ["internal/bytealg.abigen_runtime_cmpstring"], unfollowed := true, recurses := true, apart := false, narrowed := true }
def MessageOpsUptoSaid : Prop := messageOpsUptoRow.holds Tryz.pinned (OpenSpec.upto messageOpsSpec)

/-- 'blazonlaw23.MessageRequests', WHERE WHAT IT READS IS OF BULK AT MOST 1048576: true; the input reads as it did. -/
def messageRequestsUptoRow : OpenClaim := { program := "ytgeafnggodkpaaagreat", sum := "47d2d85ed3fc6a7b0a243508c8231ab52d34d5aff053a316d03bda7be6a46e33", func := "blazon/blazonlaw23.MessageRequests", spec := "messageRequests", inPlace := ["internal/bytealg.abigen_runtime_cmpstring"], unfollowed := true, recurses := true, apart := false, narrowed := true }
def MessageRequestsUptoSaid : Prop := messageRequestsUptoRow.holds Tryz.pinned (OpenSpec.upto messageRequestsSpec)

/-- 'blazonlaw23.MessageResults', WHERE WHAT IT READS IS OF BULK AT MOST 1048576: true; the input reads as it did. -/
def messageResultsUptoRow : OpenClaim := { program := "ytgeafnggodkpaaagreat", sum := "47d2d85ed3fc6a7b0a243508c8231ab52d34d5aff053a316d03bda7be6a46e33", func := "blazon/blazonlaw23.MessageResults", spec := "messageResults", inPlace := ["internal/bytealg.abigen_runtime_cmpstring"], unfollowed := true, recurses := true, apart := false, narrowed := true }
def MessageResultsUptoSaid : Prop := messageResultsUptoRow.holds Tryz.pinned (OpenSpec.upto messageResultsSpec)

/-- 'blazonlaw23.MessageBytes', WHERE WHAT IT READS IS OF BULK AT MOST 1048576: true; the input reads as it did. -/
def messageBytesUptoRow : OpenClaim := { program := "ytgeafnggodkpaaagreat", sum := "47d2d85ed3fc6a7b0a243508c8231ab52d34d5aff053a316d03bda7be6a46e33", func := "blazon/blazonlaw23.MessageBytes", spec := "messageBytes", inPlace := ["internal/bytealg.abigen_runtime_cmpstring"], unfollowed := true, recurses := true, apart := false, narrowed := true }
def MessageBytesUptoSaid : Prop := messageBytesUptoRow.holds Tryz.pinned (OpenSpec.upto messageBytesSpec)

end Rows
end Go.Proofs.YtgeafnggodkpaaaGreat
