/-
  No cell of these rows narrows 'for every input' (looked for: loops, veiled, ifaces, maps, wideKeys, modest, calm, conditions, laid).
  DERIVED. THE GIVEN ROWS OF THIS SEAT. 10 by the template 'for every input the law returns true; each argument reads behind the call as it read before'; 0 by the template 'total and deterministic' (their statements: YtpkabinmnkadeaaTotals.lean).
  GIVEN WITH THE SEED: the statements are not yours to turn. If you find one false, say at which input.
  Laid BY PROGRAM, IN A SANDBOX (cutbox-rows.mjs): the forced cells as the released guide's own fill.sh prints them over the translation d79115316533ddf6… (all of the seat's roots in one cut). By AI agents, Wed Nov 11 2026. No macro, syntax, notation, axiom, sorry.
-/
import Derived.Test.YtpkabinmnkadeaaChecked
import GoSem.Claim
import GoSem.ClaimJoined
import GoSem.ClaimMapViews
import Derived.JoinedTies
import Derived.KernelRfl
namespace Go.Proofs.Ytpkabinmnkadeaa
/- THE CELL 'sum', in the pinned program and in every row, IS THE sha256 OF THE DUMP (.gsa) THAT YtpkabinmnkadeaaProg.lean LOADS. Nothing in Lean hashes anything: it is a label: what it is worth is what the hold of that sum in a sandbox is worth. -/
noncomputable def Try.pinned : Pinned := { name := "ytpkabinmnkadeaa", sum := "d79115316533ddf6f9befc8951020fff615918de52d4b98b840918b01048dd9a", checked := Try.checked }
namespace Rows
def none {H : Type} : Left H := { results := [], args := [] }

/-- 'blazonlaw02.TlvGoes': WHATEVER THE INPUT: true; the input reads as it did. -/
def tlvGoesSpec : ChangeSpec := { name := "tlvGoes", fn := fun _ => fun
  | [d1, d2] => { results := [.lit (.bool true)], args := [d1, d2] }
  | _ => none }
def tlvGoesRow : OpenClaim := { program := "ytpkabinmnkadeaa", sum := "d79115316533ddf6f9befc8951020fff615918de52d4b98b840918b01048dd9a", func := "blazon/blazonlaw02.TlvGoes", spec := "tlvGoes", unfollowed := true, recurses := true, apart := false }
def TlvGoesSaid : Prop := tlvGoesRow.holds Try.pinned (OpenSpec.ofChange tlvGoesSpec)

/-- ITS FALSE NEIGHBOUR: 'it returns false'. Refute it at one input. -/
def tlvGoesWrong : ChangeSpec := { name := "tlvGoes", fn := fun _ => fun
  | [d1, d2] => { results := [.lit (.bool false)], args := [d1, d2] }
  | _ => none }
def TlvGoesWrongFalsely : Prop := tlvGoesRow.holds Try.pinned (OpenSpec.ofChange tlvGoesWrong)

/-- 'blazonlaw01.UtfRunes': WHATEVER THE INPUT: true; the input reads as it did. -/
def utfRunesSpec : ChangeSpec := { name := "utfRunes", fn := fun _ => fun
  | [d1, d2] => { results := [.lit (.bool true)], args := [d1, d2] }
  | _ => none }
def utfRunesRow : OpenClaim := { program := "ytpkabinmnkadeaa", sum := "d79115316533ddf6f9befc8951020fff615918de52d4b98b840918b01048dd9a", func := "blazon/blazonlaw01.UtfRunes", spec := "utfRunes", apart := false }
def UtfRunesSaid : Prop := utfRunesRow.holds Try.pinned (OpenSpec.ofChange utfRunesSpec)

/-- ITS FALSE NEIGHBOUR: 'it returns false'. Refute it at one input. -/
def utfRunesWrong : ChangeSpec := { name := "utfRunes", fn := fun _ => fun
  | [d1, d2] => { results := [.lit (.bool false)], args := [d1, d2] }
  | _ => none }
def UtfRunesWrongFalsely : Prop := utfRunesRow.holds Try.pinned (OpenSpec.ofChange utfRunesWrong)

/-- 'blazonlaw01.UtfMakes': WHATEVER THE INPUT: true; the input reads as it did. -/
def utfMakesSpec : ChangeSpec := { name := "utfMakes", fn := fun _ => fun
  | [d] => { results := [.lit (.bool true)], args := [d] }
  | _ => none }
def utfMakesRow : OpenClaim := { program := "ytpkabinmnkadeaa", sum := "d79115316533ddf6f9befc8951020fff615918de52d4b98b840918b01048dd9a", func := "blazon/blazonlaw01.UtfMakes", spec := "utfMakes", apart := false }
def UtfMakesSaid : Prop := utfMakesRow.holds Try.pinned (OpenSpec.ofChange utfMakesSpec)

/-- ITS FALSE NEIGHBOUR: 'it returns false'. Refute it at one input. -/
def utfMakesWrong : ChangeSpec := { name := "utfMakes", fn := fun _ => fun
  | [d] => { results := [.lit (.bool false)], args := [d] }
  | _ => none }
def UtfMakesWrongFalsely : Prop := utfMakesRow.holds Try.pinned (OpenSpec.ofChange utfMakesWrong)

/-- 'blazonlaw01.UtfOrders': WHATEVER THE INPUT: true; the input reads as it did. -/
def utfOrdersSpec : ChangeSpec := { name := "utfOrders", fn := fun _ => fun
  | [d1, d2] => { results := [.lit (.bool true)], args := [d1, d2] }
  | _ => none }
def utfOrdersRow : OpenClaim := { program := "ytpkabinmnkadeaa", sum := "d79115316533ddf6f9befc8951020fff615918de52d4b98b840918b01048dd9a", func := "blazon/blazonlaw01.UtfOrders", spec := "utfOrders", apart := false }
def UtfOrdersSaid : Prop := utfOrdersRow.holds Try.pinned (OpenSpec.ofChange utfOrdersSpec)

/-- ITS FALSE NEIGHBOUR: 'it returns false'. Refute it at one input. -/
def utfOrdersWrong : ChangeSpec := { name := "utfOrders", fn := fun _ => fun
  | [d1, d2] => { results := [.lit (.bool false)], args := [d1, d2] }
  | _ => none }
def UtfOrdersWrongFalsely : Prop := utfOrdersRow.holds Try.pinned (OpenSpec.ofChange utfOrdersWrong)

/-- 'blazonlaw01.UtfJoins': WHATEVER THE INPUT: true; the input reads as it did. -/
def utfJoinsSpec : ChangeSpec := { name := "utfJoins", fn := fun _ => fun
  | [d1, d2, d3] => { results := [.lit (.bool true)], args := [d1, d2, d3] }
  | _ => none }
def utfJoinsRow : OpenClaim := { program := "ytpkabinmnkadeaa", sum := "d79115316533ddf6f9befc8951020fff615918de52d4b98b840918b01048dd9a", func := "blazon/blazonlaw01.UtfJoins", spec := "utfJoins", unfollowed := true, recurses := true, apart := false }
def UtfJoinsSaid : Prop := utfJoinsRow.holds Try.pinned (OpenSpec.ofChange utfJoinsSpec)

/-- ITS FALSE NEIGHBOUR: 'it returns false'. Refute it at one input. -/
def utfJoinsWrong : ChangeSpec := { name := "utfJoins", fn := fun _ => fun
  | [d1, d2, d3] => { results := [.lit (.bool false)], args := [d1, d2, d3] }
  | _ => none }
def UtfJoinsWrongFalsely : Prop := utfJoinsRow.holds Try.pinned (OpenSpec.ofChange utfJoinsWrong)

/-- 'blazonlaw01.UtfTexts': WHATEVER THE INPUT: true; the input reads as it did. -/
def utfTextsSpec : ChangeSpec := { name := "utfTexts", fn := fun _ => fun
  | [d1, d2] => { results := [.lit (.bool true)], args := [d1, d2] }
  | _ => none }
def utfTextsRow : OpenClaim := { program := "ytpkabinmnkadeaa", sum := "d79115316533ddf6f9befc8951020fff615918de52d4b98b840918b01048dd9a", func := "blazon/blazonlaw01.UtfTexts", spec := "utfTexts", unfollowed := true, recurses := true, apart := false }
def UtfTextsSaid : Prop := utfTextsRow.holds Try.pinned (OpenSpec.ofChange utfTextsSpec)

/-- ITS FALSE NEIGHBOUR: 'it returns false'. Refute it at one input. -/
def utfTextsWrong : ChangeSpec := { name := "utfTexts", fn := fun _ => fun
  | [d1, d2] => { results := [.lit (.bool false)], args := [d1, d2] }
  | _ => none }
def UtfTextsWrongFalsely : Prop := utfTextsRow.holds Try.pinned (OpenSpec.ofChange utfTextsWrong)

/-- 'blazonlaw01.UtfMeans': WHATEVER THE INPUT: true; the input reads as it did. -/
def utfMeansSpec : ChangeSpec := { name := "utfMeans", fn := fun _ => fun
  | [d1, d2, d3] => { results := [.lit (.bool true)], args := [d1, d2, d3] }
  | _ => none }
def utfMeansRow : OpenClaim := { program := "ytpkabinmnkadeaa", sum := "d79115316533ddf6f9befc8951020fff615918de52d4b98b840918b01048dd9a", func := "blazon/blazonlaw01.UtfMeans", spec := "utfMeans", unfollowed := true, recurses := true, apart := false }
def UtfMeansSaid : Prop := utfMeansRow.holds Try.pinned (OpenSpec.ofChange utfMeansSpec)

/-- ITS FALSE NEIGHBOUR: 'it returns false'. Refute it at one input. -/
def utfMeansWrong : ChangeSpec := { name := "utfMeans", fn := fun _ => fun
  | [d1, d2, d3] => { results := [.lit (.bool false)], args := [d1, d2, d3] }
  | _ => none }
def UtfMeansWrongFalsely : Prop := utfMeansRow.holds Try.pinned (OpenSpec.ofChange utfMeansWrong)

/-- 'blazonlaw02.TlvWrites': WHATEVER THE INPUT: true; the input reads as it did. -/
def tlvWritesSpec : ChangeSpec := { name := "tlvWrites", fn := fun _ => fun
  | [d] => { results := [.lit (.bool true)], args := [d] }
  | _ => none }
def tlvWritesRow : OpenClaim := { program := "ytpkabinmnkadeaa", sum := "d79115316533ddf6f9befc8951020fff615918de52d4b98b840918b01048dd9a", func := "blazon/blazonlaw02.TlvWrites", spec := "tlvWrites", unfollowed := true, recurses := true, apart := false }
def TlvWritesSaid : Prop := tlvWritesRow.holds Try.pinned (OpenSpec.ofChange tlvWritesSpec)

/-- ITS FALSE NEIGHBOUR: 'it returns false'. Refute it at one input. -/
def tlvWritesWrong : ChangeSpec := { name := "tlvWrites", fn := fun _ => fun
  | [d] => { results := [.lit (.bool false)], args := [d] }
  | _ => none }
def TlvWritesWrongFalsely : Prop := tlvWritesRow.holds Try.pinned (OpenSpec.ofChange tlvWritesWrong)

/-- 'blazonlaw02.TlvMeans': WHATEVER THE INPUT: true; the input reads as it did. -/
def tlvMeansSpec : ChangeSpec := { name := "tlvMeans", fn := fun _ => fun
  | [d1, d2] => { results := [.lit (.bool true)], args := [d1, d2] }
  | _ => none }
def tlvMeansRow : OpenClaim := { program := "ytpkabinmnkadeaa", sum := "d79115316533ddf6f9befc8951020fff615918de52d4b98b840918b01048dd9a", func := "blazon/blazonlaw02.TlvMeans", spec := "tlvMeans", unfollowed := true, recurses := true, apart := false }
def TlvMeansSaid : Prop := tlvMeansRow.holds Try.pinned (OpenSpec.ofChange tlvMeansSpec)

/-- ITS FALSE NEIGHBOUR: 'it returns false'. Refute it at one input. -/
def tlvMeansWrong : ChangeSpec := { name := "tlvMeans", fn := fun _ => fun
  | [d1, d2] => { results := [.lit (.bool false)], args := [d1, d2] }
  | _ => none }
def TlvMeansWrongFalsely : Prop := tlvMeansRow.holds Try.pinned (OpenSpec.ofChange tlvMeansWrong)

/-- 'blazonlaw02.TlvCuts': WHATEVER THE INPUT: true; the input reads as it did. -/
def tlvCutsSpec : ChangeSpec := { name := "tlvCuts", fn := fun _ => fun
  | [d1, d2] => { results := [.lit (.bool true)], args := [d1, d2] }
  | _ => none }
def tlvCutsRow : OpenClaim := { program := "ytpkabinmnkadeaa", sum := "d79115316533ddf6f9befc8951020fff615918de52d4b98b840918b01048dd9a", func := "blazon/blazonlaw02.TlvCuts", spec := "tlvCuts", unfollowed := true, recurses := true, apart := false }
def TlvCutsSaid : Prop := tlvCutsRow.holds Try.pinned (OpenSpec.ofChange tlvCutsSpec)

/-- ITS FALSE NEIGHBOUR: 'it returns false'. Refute it at one input. -/
def tlvCutsWrong : ChangeSpec := { name := "tlvCuts", fn := fun _ => fun
  | [d1, d2] => { results := [.lit (.bool false)], args := [d1, d2] }
  | _ => none }
def TlvCutsWrongFalsely : Prop := tlvCutsRow.holds Try.pinned (OpenSpec.ofChange tlvCutsWrong)

/- THE SECOND FORM. 'bulk': how many values and letters a reading holds, each counted each time it is reached (what is shared counts as often as it is met; a slice's spare places count too). A statement '..UptoSaid' is the law's where the arguments, and the package variables that the reading takes, are together of bulk at most 1048576: NARROWER than '..Said'. Prove '..Said' where nothing that the law and all that it calls make is longer than what came in: it says more and counts as full. Else prove '..UptoSaid'. A law counts once. -/
mutual
def uptoBulk {H : Type} : DataW H → Nat
  | .lit (.string bytes) => bytes.length + 1
  | .lit _ => 1
  | .nil => 1
  | .ptr d => uptoBulk d + 1
  | .slice elems spare => uptoBulkAll elems + uptoBulkAll spare + 1
  | .agg parts => uptoBulkAll parts + 1
  | .iface _ d => uptoBulk d + 1
  | .map entries => uptoBulkEntries entries + 1
  | .held _ => 1
def uptoBulkAll {H : Type} : List (DataW H) → Nat
  | [] => 0
  | d :: r => uptoBulk d + uptoBulkAll r
def uptoBulkEntries {H : Type} : List (Lit × DataW H) → Nat
  | [] => 0
  | x :: r => uptoBulkEntry x + uptoBulkEntries r
def uptoBulkEntry {H : Type} : Lit × DataW H → Nat
  | (.string bytes, d) => bytes.length + uptoBulk d + 1
  | (_, d) => uptoBulk d + 1
 end
def uptoSmall : (H : Type) → List (DataW H) → Bool := fun _ ds => decide (uptoBulkAll ds ≤ 1048576)
def OpenSpec.upto (s : _root_.Go.ChangeSpec) : _root_.Go.OpenSpec := { _root_.Go.OpenSpec.ofChange s with cond := some uptoSmall }

/-- 'blazonlaw02.TlvGoes', WHERE WHAT IT READS IS OF BULK AT MOST 1048576: true; the input reads as it did. -/
def tlvGoesUptoRow : OpenClaim := { program := "ytpkabinmnkadeaa", sum := "d79115316533ddf6f9befc8951020fff615918de52d4b98b840918b01048dd9a", func := "blazon/blazonlaw02.TlvGoes", spec := "tlvGoes", unfollowed := true, recurses := true, apart := false, narrowed := true }
def TlvGoesUptoSaid : Prop := tlvGoesUptoRow.holds Try.pinned (OpenSpec.upto tlvGoesSpec)

/-- 'blazonlaw01.UtfRunes', WHERE WHAT IT READS IS OF BULK AT MOST 1048576: true; the input reads as it did. -/
def utfRunesUptoRow : OpenClaim := { program := "ytpkabinmnkadeaa", sum := "d79115316533ddf6f9befc8951020fff615918de52d4b98b840918b01048dd9a", func := "blazon/blazonlaw01.UtfRunes", spec := "utfRunes", apart := false, narrowed := true }
def UtfRunesUptoSaid : Prop := utfRunesUptoRow.holds Try.pinned (OpenSpec.upto utfRunesSpec)

/-- 'blazonlaw01.UtfMakes', WHERE WHAT IT READS IS OF BULK AT MOST 1048576: true; the input reads as it did. -/
def utfMakesUptoRow : OpenClaim := { program := "ytpkabinmnkadeaa", sum := "d79115316533ddf6f9befc8951020fff615918de52d4b98b840918b01048dd9a", func := "blazon/blazonlaw01.UtfMakes", spec := "utfMakes", apart := false, narrowed := true }
def UtfMakesUptoSaid : Prop := utfMakesUptoRow.holds Try.pinned (OpenSpec.upto utfMakesSpec)

/-- 'blazonlaw01.UtfOrders', WHERE WHAT IT READS IS OF BULK AT MOST 1048576: true; the input reads as it did. -/
def utfOrdersUptoRow : OpenClaim := { program := "ytpkabinmnkadeaa", sum := "d79115316533ddf6f9befc8951020fff615918de52d4b98b840918b01048dd9a", func := "blazon/blazonlaw01.UtfOrders", spec := "utfOrders", apart := false, narrowed := true }
def UtfOrdersUptoSaid : Prop := utfOrdersUptoRow.holds Try.pinned (OpenSpec.upto utfOrdersSpec)

/-- 'blazonlaw01.UtfJoins', WHERE WHAT IT READS IS OF BULK AT MOST 1048576: true; the input reads as it did. -/
def utfJoinsUptoRow : OpenClaim := { program := "ytpkabinmnkadeaa", sum := "d79115316533ddf6f9befc8951020fff615918de52d4b98b840918b01048dd9a", func := "blazon/blazonlaw01.UtfJoins", spec := "utfJoins", unfollowed := true, recurses := true, apart := false, narrowed := true }
def UtfJoinsUptoSaid : Prop := utfJoinsUptoRow.holds Try.pinned (OpenSpec.upto utfJoinsSpec)

/-- 'blazonlaw01.UtfTexts', WHERE WHAT IT READS IS OF BULK AT MOST 1048576: true; the input reads as it did. -/
def utfTextsUptoRow : OpenClaim := { program := "ytpkabinmnkadeaa", sum := "d79115316533ddf6f9befc8951020fff615918de52d4b98b840918b01048dd9a", func := "blazon/blazonlaw01.UtfTexts", spec := "utfTexts", unfollowed := true, recurses := true, apart := false, narrowed := true }
def UtfTextsUptoSaid : Prop := utfTextsUptoRow.holds Try.pinned (OpenSpec.upto utfTextsSpec)

/-- 'blazonlaw01.UtfMeans', WHERE WHAT IT READS IS OF BULK AT MOST 1048576: true; the input reads as it did. -/
def utfMeansUptoRow : OpenClaim := { program := "ytpkabinmnkadeaa", sum := "d79115316533ddf6f9befc8951020fff615918de52d4b98b840918b01048dd9a", func := "blazon/blazonlaw01.UtfMeans", spec := "utfMeans", unfollowed := true, recurses := true, apart := false, narrowed := true }
def UtfMeansUptoSaid : Prop := utfMeansUptoRow.holds Try.pinned (OpenSpec.upto utfMeansSpec)

/-- 'blazonlaw02.TlvWrites', WHERE WHAT IT READS IS OF BULK AT MOST 1048576: true; the input reads as it did. -/
def tlvWritesUptoRow : OpenClaim := { program := "ytpkabinmnkadeaa", sum := "d79115316533ddf6f9befc8951020fff615918de52d4b98b840918b01048dd9a", func := "blazon/blazonlaw02.TlvWrites", spec := "tlvWrites", unfollowed := true, recurses := true, apart := false, narrowed := true }
def TlvWritesUptoSaid : Prop := tlvWritesUptoRow.holds Try.pinned (OpenSpec.upto tlvWritesSpec)

/-- 'blazonlaw02.TlvMeans', WHERE WHAT IT READS IS OF BULK AT MOST 1048576: true; the input reads as it did. -/
def tlvMeansUptoRow : OpenClaim := { program := "ytpkabinmnkadeaa", sum := "d79115316533ddf6f9befc8951020fff615918de52d4b98b840918b01048dd9a", func := "blazon/blazonlaw02.TlvMeans", spec := "tlvMeans", unfollowed := true, recurses := true, apart := false, narrowed := true }
def TlvMeansUptoSaid : Prop := tlvMeansUptoRow.holds Try.pinned (OpenSpec.upto tlvMeansSpec)

/-- 'blazonlaw02.TlvCuts', WHERE WHAT IT READS IS OF BULK AT MOST 1048576: true; the input reads as it did. -/
def tlvCutsUptoRow : OpenClaim := { program := "ytpkabinmnkadeaa", sum := "d79115316533ddf6f9befc8951020fff615918de52d4b98b840918b01048dd9a", func := "blazon/blazonlaw02.TlvCuts", spec := "tlvCuts", unfollowed := true, recurses := true, apart := false, narrowed := true }
def TlvCutsUptoSaid : Prop := tlvCutsUptoRow.holds Try.pinned (OpenSpec.upto tlvCutsSpec)

end Rows
end Go.Proofs.Ytpkabinmnkadeaa
