/-
  No cell of these rows narrows 'for every input' (looked for: loops, veiled, ifaces, maps, wideKeys, modest, calm, conditions, laid).
  DERIVED. THE GIVEN ROWS OF THIS SEAT. 6 by the template 'for every input the law returns true; each argument reads behind the call as it read before'; 0 by the template 'total and deterministic' (their statements: YthpleebfhanahaaTotals.lean).
  GIVEN WITH THE SEED: the statements are not yours to turn. If you find one false, say at which input.
  Laid BY PROGRAM, IN A SANDBOX (cutbox-rows.mjs): the forced cells as the released guide's own fill.sh prints them over the translation 8e2c1eb79f4393d5… (all of the seat's roots in one cut). By AI agents, Wed Nov 11 2026. No macro, syntax, notation, axiom, sorry.
-/
import Derived.Test.YthpleebfhanahaaChecked
import GoSem.Claim
import GoSem.ClaimJoined
import GoSem.ClaimMapViews
import Derived.JoinedTies
import Derived.KernelRfl
namespace Go.Proofs.Ythpleebfhanahaa
/- THE CELL 'sum', in the pinned program and in every row, IS THE sha256 OF THE DUMP (.gsa) THAT YthpleebfhanahaaProg.lean LOADS. Nothing in Lean hashes anything: it is a label: what it is worth is what the hold of that sum in a sandbox is worth. -/
noncomputable def Try.pinned : Pinned := { name := "ythpleebfhanahaa", sum := "8e2c1eb79f4393d5e11f2c1b3875917b8a205b215daf547bf98e8236bdcd4bd8", checked := Try.checked }
namespace Rows
def none {H : Type} : Left H := { results := [], args := [] }

/-- 'aquiferlaw03.KeycodeCodes': WHATEVER THE INPUT: true; the input reads as it did. -/
def keycodeCodesSpec : ChangeSpec := { name := "keycodeCodes", fn := fun _ => fun
  | [d] => { results := [.lit (.bool true)], args := [d] }
  | _ => none }
def keycodeCodesRow : OpenClaim := { program := "ythpleebfhanahaa", sum := "8e2c1eb79f4393d5e11f2c1b3875917b8a205b215daf547bf98e8236bdcd4bd8", func := "aquifer/aquiferlaw03.KeycodeCodes", spec := "keycodeCodes", apart := false }
def KeycodeCodesSaid : Prop := keycodeCodesRow.holds Try.pinned (OpenSpec.ofChange keycodeCodesSpec)

/-- ITS FALSE NEIGHBOUR: 'it returns false'. Refute it at one input. -/
def keycodeCodesWrong : ChangeSpec := { name := "keycodeCodes", fn := fun _ => fun
  | [d] => { results := [.lit (.bool false)], args := [d] }
  | _ => none }
def KeycodeCodesWrongFalsely : Prop := keycodeCodesRow.holds Try.pinned (OpenSpec.ofChange keycodeCodesWrong)

/-- 'aquiferlaw03.KeycodeAfters': WHATEVER THE INPUT: true; the input reads as it did. -/
def keycodeAftersSpec : ChangeSpec := { name := "keycodeAfters", fn := fun _ => fun
  | [d] => { results := [.lit (.bool true)], args := [d] }
  | _ => none }
def keycodeAftersRow : OpenClaim := { program := "ythpleebfhanahaa", sum := "8e2c1eb79f4393d5e11f2c1b3875917b8a205b215daf547bf98e8236bdcd4bd8", func := "aquifer/aquiferlaw03.KeycodeAfters", spec := "keycodeAfters", apart := false }
def KeycodeAftersSaid : Prop := keycodeAftersRow.holds Try.pinned (OpenSpec.ofChange keycodeAftersSpec)

/-- ITS FALSE NEIGHBOUR: 'it returns false'. Refute it at one input. -/
def keycodeAftersWrong : ChangeSpec := { name := "keycodeAfters", fn := fun _ => fun
  | [d] => { results := [.lit (.bool false)], args := [d] }
  | _ => none }
def KeycodeAftersWrongFalsely : Prop := keycodeAftersRow.holds Try.pinned (OpenSpec.ofChange keycodeAftersWrong)

/-- 'aquiferlaw03.KeycodeOrders': WHATEVER THE INPUT: true; the input reads as it did. -/
def keycodeOrdersSpec : ChangeSpec := { name := "keycodeOrders", fn := fun _ => fun
  | [d1, d2] => { results := [.lit (.bool true)], args := [d1, d2] }
  | _ => none }
def keycodeOrdersRow : OpenClaim := { program := "ythpleebfhanahaa", sum := "8e2c1eb79f4393d5e11f2c1b3875917b8a205b215daf547bf98e8236bdcd4bd8", func := "aquifer/aquiferlaw03.KeycodeOrders", spec := "keycodeOrders", inPlace := ["internal/bytealg.abigen_runtime_cmpstring"], apart := false }
def KeycodeOrdersSaid : Prop := keycodeOrdersRow.holds Try.pinned (OpenSpec.ofChange keycodeOrdersSpec)

/-- ITS FALSE NEIGHBOUR: 'it returns false'. Refute it at one input. -/
def keycodeOrdersWrong : ChangeSpec := { name := "keycodeOrders", fn := fun _ => fun
  | [d1, d2] => { results := [.lit (.bool false)], args := [d1, d2] }
  | _ => none }
def KeycodeOrdersWrongFalsely : Prop := keycodeOrdersRow.holds Try.pinned (OpenSpec.ofChange keycodeOrdersWrong)

/-- 'aquiferlaw03.KeycodeSorted': WHATEVER THE INPUT: true; the input reads as it did. -/
def keycodeSortedSpec : ChangeSpec := { name := "keycodeSorted", fn := fun _ => fun
  | [d1, d2, d3] => { results := [.lit (.bool true)], args := [d1, d2, d3] }
  | _ => none }
def keycodeSortedRow : OpenClaim := { program := "ythpleebfhanahaa", sum := "8e2c1eb79f4393d5e11f2c1b3875917b8a205b215daf547bf98e8236bdcd4bd8", func := "aquifer/aquiferlaw03.KeycodeSorted", spec := "keycodeSorted", inPlace := ["internal/bytealg.abigen_runtime_cmpstring"], apart := false }
def KeycodeSortedSaid : Prop := keycodeSortedRow.holds Try.pinned (OpenSpec.ofChange keycodeSortedSpec)

/-- ITS FALSE NEIGHBOUR: 'it returns false'. Refute it at one input. -/
def keycodeSortedWrong : ChangeSpec := { name := "keycodeSorted", fn := fun _ => fun
  | [d1, d2, d3] => { results := [.lit (.bool false)], args := [d1, d2, d3] }
  | _ => none }
def KeycodeSortedWrongFalsely : Prop := keycodeSortedRow.holds Try.pinned (OpenSpec.ofChange keycodeSortedWrong)

/-- 'aquiferlaw03.KeycodeReads': WHATEVER THE INPUT: true; the input reads as it did. -/
def keycodeReadsSpec : ChangeSpec := { name := "keycodeReads", fn := fun _ => fun
  | [d] => { results := [.lit (.bool true)], args := [d] }
  | _ => none }
def keycodeReadsRow : OpenClaim := { program := "ythpleebfhanahaa", sum := "8e2c1eb79f4393d5e11f2c1b3875917b8a205b215daf547bf98e8236bdcd4bd8", func := "aquifer/aquiferlaw03.KeycodeReads", spec := "keycodeReads", inPlace := ["internal/abi.NoEscape"], apart := false }
def KeycodeReadsSaid : Prop := keycodeReadsRow.holds Try.pinned (OpenSpec.ofChange keycodeReadsSpec)

/-- ITS FALSE NEIGHBOUR: 'it returns false'. Refute it at one input. -/
def keycodeReadsWrong : ChangeSpec := { name := "keycodeReads", fn := fun _ => fun
  | [d] => { results := [.lit (.bool false)], args := [d] }
  | _ => none }
def KeycodeReadsWrongFalsely : Prop := keycodeReadsRow.holds Try.pinned (OpenSpec.ofChange keycodeReadsWrong)

/-- 'aquiferlaw03.KeycodeBack': WHATEVER THE INPUT: true; the input reads as it did. -/
def keycodeBackSpec : ChangeSpec := { name := "keycodeBack", fn := fun _ => fun
  | [d1, d2, d3] => { results := [.lit (.bool true)], args := [d1, d2, d3] }
  | _ => none }
def keycodeBackRow : OpenClaim := { program := "ythpleebfhanahaa", sum := "8e2c1eb79f4393d5e11f2c1b3875917b8a205b215daf547bf98e8236bdcd4bd8", func := "aquifer/aquiferlaw03.KeycodeBack", spec := "keycodeBack", inPlace := ["internal/abi.NoEscape"], apart := false }
def KeycodeBackSaid : Prop := keycodeBackRow.holds Try.pinned (OpenSpec.ofChange keycodeBackSpec)

/-- ITS FALSE NEIGHBOUR: 'it returns false'. Refute it at one input. -/
def keycodeBackWrong : ChangeSpec := { name := "keycodeBack", fn := fun _ => fun
  | [d1, d2, d3] => { results := [.lit (.bool false)], args := [d1, d2, d3] }
  | _ => none }
def KeycodeBackWrongFalsely : Prop := keycodeBackRow.holds Try.pinned (OpenSpec.ofChange keycodeBackWrong)

/- THE SECOND FORM. 'bulk': how many values and letters a reading holds, each counted each time it is reached (what is shared counts as often as it is met; a slice's spare places count too). A statement '..UptoSaid' is the law's where the arguments, and the package variables that the reading takes, are together of bulk at most 1048576: NARROWER than '..Said'. Prove '..Said' where nothing that the law and all that it calls make is longer than what came in: it says more and counts as full. Else prove '..UptoSaid'. A law counts once. -/
mutual
def uptoBulk {H : Type} : DataW H → Nat
  | .lit (.string bytes) => bytes.length + 1
  | .lit _ => 1
  | .nil => 1
  | .ptr d => uptoBulk d + 1
  | .slice elems spare => uptoBulkAll elems + uptoBulkAll spare + 1
  | .agg parts => uptoBulkAll parts + 1
  | .iface _ d => uptoBulk d + 1
  | .map entries => uptoBulkEntries entries + 1
  | .held _ => 1
def uptoBulkAll {H : Type} : List (DataW H) → Nat
  | [] => 0
  | d :: r => uptoBulk d + uptoBulkAll r
def uptoBulkEntries {H : Type} : List (Lit × DataW H) → Nat
  | [] => 0
  | x :: r => uptoBulkEntry x + uptoBulkEntries r
def uptoBulkEntry {H : Type} : Lit × DataW H → Nat
  | (.string bytes, d) => bytes.length + uptoBulk d + 1
  | (_, d) => uptoBulk d + 1
 end
def uptoSmall : (H : Type) → List (DataW H) → Bool := fun _ ds => decide (uptoBulkAll ds ≤ 1048576)
def OpenSpec.upto (s : _root_.Go.ChangeSpec) : _root_.Go.OpenSpec := { _root_.Go.OpenSpec.ofChange s with cond := some uptoSmall }

/-- 'aquiferlaw03.KeycodeCodes', WHERE WHAT IT READS IS OF BULK AT MOST 1048576: true; the input reads as it did. -/
def keycodeCodesUptoRow : OpenClaim := { program := "ythpleebfhanahaa", sum := "8e2c1eb79f4393d5e11f2c1b3875917b8a205b215daf547bf98e8236bdcd4bd8", func := "aquifer/aquiferlaw03.KeycodeCodes", spec := "keycodeCodes", apart := false, narrowed := true }
def KeycodeCodesUptoSaid : Prop := keycodeCodesUptoRow.holds Try.pinned (OpenSpec.upto keycodeCodesSpec)

/-- 'aquiferlaw03.KeycodeAfters', WHERE WHAT IT READS IS OF BULK AT MOST 1048576: true; the input reads as it did. -/
def keycodeAftersUptoRow : OpenClaim := { program := "ythpleebfhanahaa", sum := "8e2c1eb79f4393d5e11f2c1b3875917b8a205b215daf547bf98e8236bdcd4bd8", func := "aquifer/aquiferlaw03.KeycodeAfters", spec := "keycodeAfters", apart := false, narrowed := true }
def KeycodeAftersUptoSaid : Prop := keycodeAftersUptoRow.holds Try.pinned (OpenSpec.upto keycodeAftersSpec)

/-- 'aquiferlaw03.KeycodeOrders', WHERE WHAT IT READS IS OF BULK AT MOST 1048576: true; the input reads as it did. -/
def keycodeOrdersUptoRow : OpenClaim := { program := "ythpleebfhanahaa", sum := "8e2c1eb79f4393d5e11f2c1b3875917b8a205b215daf547bf98e8236bdcd4bd8", func := "aquifer/aquiferlaw03.KeycodeOrders", spec := "keycodeOrders", inPlace := ["internal/bytealg.abigen_runtime_cmpstring"], apart := false, narrowed := true }
def KeycodeOrdersUptoSaid : Prop := keycodeOrdersUptoRow.holds Try.pinned (OpenSpec.upto keycodeOrdersSpec)

/-- 'aquiferlaw03.KeycodeSorted', WHERE WHAT IT READS IS OF BULK AT MOST 1048576: true; the input reads as it did. -/
def keycodeSortedUptoRow : OpenClaim := { program := "ythpleebfhanahaa", sum := "8e2c1eb79f4393d5e11f2c1b3875917b8a205b215daf547bf98e8236bdcd4bd8", func := "aquifer/aquiferlaw03.KeycodeSorted", spec := "keycodeSorted", inPlace := ["internal/bytealg.abigen_runtime_cmpstring"], apart := false, narrowed := true }
def KeycodeSortedUptoSaid : Prop := keycodeSortedUptoRow.holds Try.pinned (OpenSpec.upto keycodeSortedSpec)

/-- 'aquiferlaw03.KeycodeReads', WHERE WHAT IT READS IS OF BULK AT MOST 1048576: true; the input reads as it did. -/
def keycodeReadsUptoRow : OpenClaim := { program := "ythpleebfhanahaa", sum := "8e2c1eb79f4393d5e11f2c1b3875917b8a205b215daf547bf98e8236bdcd4bd8", func := "aquifer/aquiferlaw03.KeycodeReads", spec := "keycodeReads", inPlace := ["internal/abi.NoEscape"], apart := false, narrowed := true }
def KeycodeReadsUptoSaid : Prop := keycodeReadsUptoRow.holds Try.pinned (OpenSpec.upto keycodeReadsSpec)

/-- 'aquiferlaw03.KeycodeBack', WHERE WHAT IT READS IS OF BULK AT MOST 1048576: true; the input reads as it did. -/
def keycodeBackUptoRow : OpenClaim := { program := "ythpleebfhanahaa", sum := "8e2c1eb79f4393d5e11f2c1b3875917b8a205b215daf547bf98e8236bdcd4bd8", func := "aquifer/aquiferlaw03.KeycodeBack", spec := "keycodeBack", inPlace := ["internal/abi.NoEscape"], apart := false, narrowed := true }
def KeycodeBackUptoSaid : Prop := keycodeBackUptoRow.holds Try.pinned (OpenSpec.upto keycodeBackSpec)

end Rows
end Go.Proofs.Ythpleebfhanahaa
