/-
  NARROWER THAN 'FOR EVERY INPUT', by the rows' own cells (each row's printed sentence says how): InodeTells: laid · InodeStates: laid · InodeArchs: laid · InodeCodes: laid · InodeKeys: laid · InodeOrder: laid · InodeBack: laid.
  DERIVED. THE GIVEN ROWS OF THIS SEAT. 7 by the template 'for every input the law returns true; each argument reads behind the call as it read before'; 0 by the template 'total and deterministic' (their statements: YtbhioghpgedkeaaDoorTotals.lean).
  GIVEN WITH THE SEED: the statements are not yours to turn. If you find one false, say at which input.
  Laid BY PROGRAM, IN A SANDBOX (cutbox-rows.mjs): the forced cells as the released guide's own fill.sh prints them over the translation 97a6052afea0a633… (all of the seat's roots in one cut). By AI agents, Wed Nov 11 2026. No macro, syntax, notation, axiom, sorry.
-/
import Derived.Test.YtbhioghpgedkeaaDoorChecked
import GoSem.PinnedTables
import GoSem.Claim
import GoSem.ClaimJoined
import GoSem.ClaimMapViews
import Derived.JoinedTies
import Derived.KernelRfl
namespace Go.Proofs.YtbhioghpgedkeaaDoor
/- THE CELL 'sum', in the pinned program and in every row, IS THE sha256 OF THE DUMP (.gsa) THAT YtbhioghpgedkeaaDoorProg.lean LOADS. Nothing in Lean hashes anything: it is a label: what it is worth is what the hold of that sum in a sandbox is worth. -/
noncomputable def Tryd.pinned : Pinned := { name := "ytbhioghpgedkeaadoor", sum := "97a6052afea0a63389348bc168b4ea4fdd53cac38828f58f304fa994cb3b5857", checked := Tryd.checked }
namespace Rows
def none {H : Type} : Left H := { results := [], args := [] }

/- WHAT THE LISTED PACKAGE-LEVEL VARIABLES READ AS WHEN THE CALL BEGINS. Each datum BY PROGRAM (the guide's laid-datum.mjs) off the statement by which the dump's own 'gosem.cut.vars' lays the variable. In a bare row this is a premise. The card (YtbhioghpgedkeaaDoorCards.lean) ties it to the program's text. -/
def laid_unicode_utf8_acceptRanges {H : Type} : DataW H := .agg [.agg [.lit (.int .u8 128), .lit (.int .u8 191)], .agg [.lit (.int .u8 160), .lit (.int .u8 191)], .agg [.lit (.int .u8 128), .lit (.int .u8 159)], .agg [.lit (.int .u8 144), .lit (.int .u8 191)], .agg [.lit (.int .u8 128), .lit (.int .u8 143)], .agg [.lit (.int .u8 0), .lit (.int .u8 0)], .agg [.lit (.int .u8 0), .lit (.int .u8 0)], .agg [.lit (.int .u8 0), .lit (.int .u8 0)], .agg [.lit (.int .u8 0), .lit (.int .u8 0)], .agg [.lit (.int .u8 0), .lit (.int .u8 0)], .agg [.lit (.int .u8 0), .lit (.int .u8 0)], .agg [.lit (.int .u8 0), .lit (.int .u8 0)], .agg [.lit (.int .u8 0), .lit (.int .u8 0)], .agg [.lit (.int .u8 0), .lit (.int .u8 0)], .agg [.lit (.int .u8 0), .lit (.int .u8 0)], .agg [.lit (.int .u8 0), .lit (.int .u8 0)]]
/-- One of Go's own tables, pinned by name: the form's constant. -/
def laid_unicode_utf8_first : DataW Unit := Go.Pinned.utf8First

/-- 'aquiferlaw17.InodeTells': WHATEVER THE INPUT: true; the input reads as it did. -/
def inodeTellsSpec : ChangeSpec := { name := "inodeTells", fn := fun _ => fun
  | [d1, d2, d3] => { results := [.lit (.bool true)], args := [d1, d2, d3] }
  | _ => none }
def inodeTellsRow : OpenClaim := { program := "ytbhioghpgedkeaadoor", sum := "97a6052afea0a63389348bc168b4ea4fdd53cac38828f58f304fa994cb3b5857", func := "aquifer/aquiferlaw17.InodeTells", spec := "inodeTells", inPlace := ["internal/bytealg.CountString", "internal/bytealg.IndexByteString", "internal/bytealg.IndexString"], named := ["unicode/utf8.first", "unicode/utf8.acceptRanges", "internal/bytealg.MaxLen"], apart := false, laid := [("unicode/utf8.acceptRanges", laid_unicode_utf8_acceptRanges), ("unicode/utf8.first", laid_unicode_utf8_first)] }
def InodeTellsSaid : Prop := inodeTellsRow.holds Tryd.pinned (OpenSpec.ofChange inodeTellsSpec)

/-- ITS FALSE NEIGHBOUR: 'it returns false'. Refute it at one input. -/
def inodeTellsWrong : ChangeSpec := { name := "inodeTells", fn := fun _ => fun
  | [d1, d2, d3] => { results := [.lit (.bool false)], args := [d1, d2, d3] }
  | _ => none }
def InodeTellsWrongFalsely : Prop := inodeTellsRow.holds Tryd.pinned (OpenSpec.ofChange inodeTellsWrong)

/-- 'aquiferlaw17.InodeStates': WHATEVER THE INPUT: true; the input reads as it did. -/
def inodeStatesSpec : ChangeSpec := { name := "inodeStates", fn := fun _ => fun
  | [d1, d2] => { results := [.lit (.bool true)], args := [d1, d2] }
  | _ => none }
def inodeStatesRow : OpenClaim := { program := "ytbhioghpgedkeaadoor", sum := "97a6052afea0a63389348bc168b4ea4fdd53cac38828f58f304fa994cb3b5857", func := "aquifer/aquiferlaw17.InodeStates", spec := "inodeStates", inPlace := ["internal/bytealg.CountString", "internal/bytealg.IndexByteString", "internal/bytealg.IndexString"], named := ["unicode/utf8.first", "unicode/utf8.acceptRanges", "internal/bytealg.MaxLen"], apart := false, laid := [("unicode/utf8.acceptRanges", laid_unicode_utf8_acceptRanges), ("unicode/utf8.first", laid_unicode_utf8_first)] }
def InodeStatesSaid : Prop := inodeStatesRow.holds Tryd.pinned (OpenSpec.ofChange inodeStatesSpec)

/-- ITS FALSE NEIGHBOUR: 'it returns false'. Refute it at one input. -/
def inodeStatesWrong : ChangeSpec := { name := "inodeStates", fn := fun _ => fun
  | [d1, d2] => { results := [.lit (.bool false)], args := [d1, d2] }
  | _ => none }
def InodeStatesWrongFalsely : Prop := inodeStatesRow.holds Tryd.pinned (OpenSpec.ofChange inodeStatesWrong)

/-- 'aquiferlaw17.InodeArchs': WHATEVER THE INPUT: true; the input reads as it did. -/
def inodeArchsSpec : ChangeSpec := { name := "inodeArchs", fn := fun _ => fun
  | [d1, d2] => { results := [.lit (.bool true)], args := [d1, d2] }
  | _ => none }
def inodeArchsRow : OpenClaim := { program := "ytbhioghpgedkeaadoor", sum := "97a6052afea0a63389348bc168b4ea4fdd53cac38828f58f304fa994cb3b5857", func := "aquifer/aquiferlaw17.InodeArchs", spec := "inodeArchs", inPlace := ["internal/bytealg.CountString", "internal/bytealg.IndexByteString", "internal/bytealg.IndexString"], unfollowed := true, recurses := true, named := ["unicode/utf8.first", "unicode/utf8.acceptRanges", "internal/bytealg.MaxLen"], apart := false, laid := [("unicode/utf8.acceptRanges", laid_unicode_utf8_acceptRanges), ("unicode/utf8.first", laid_unicode_utf8_first)] }
def InodeArchsSaid : Prop := inodeArchsRow.holds Tryd.pinned (OpenSpec.ofChange inodeArchsSpec)

/-- ITS FALSE NEIGHBOUR: 'it returns false'. Refute it at one input. -/
def inodeArchsWrong : ChangeSpec := { name := "inodeArchs", fn := fun _ => fun
  | [d1, d2] => { results := [.lit (.bool false)], args := [d1, d2] }
  | _ => none }
def InodeArchsWrongFalsely : Prop := inodeArchsRow.holds Tryd.pinned (OpenSpec.ofChange inodeArchsWrong)

/-- 'aquiferlaw17.InodeCodes': WHATEVER THE INPUT: true; the input reads as it did. -/
def inodeCodesSpec : ChangeSpec := { name := "inodeCodes", fn := fun _ => fun
  | [d1, d2] => { results := [.lit (.bool true)], args := [d1, d2] }
  | _ => none }
def inodeCodesRow : OpenClaim := { program := "ytbhioghpgedkeaadoor", sum := "97a6052afea0a63389348bc168b4ea4fdd53cac38828f58f304fa994cb3b5857", func := "aquifer/aquiferlaw17.InodeCodes", spec := "inodeCodes", inPlace := ["internal/bytealg.CountString", "internal/bytealg.IndexByteString", "internal/bytealg.IndexString"], unfollowed := true, recurses := true, named := ["unicode/utf8.first", "unicode/utf8.acceptRanges", "internal/bytealg.MaxLen"], apart := false, laid := [("unicode/utf8.acceptRanges", laid_unicode_utf8_acceptRanges), ("unicode/utf8.first", laid_unicode_utf8_first)] }
def InodeCodesSaid : Prop := inodeCodesRow.holds Tryd.pinned (OpenSpec.ofChange inodeCodesSpec)

/-- ITS FALSE NEIGHBOUR: 'it returns false'. Refute it at one input. -/
def inodeCodesWrong : ChangeSpec := { name := "inodeCodes", fn := fun _ => fun
  | [d1, d2] => { results := [.lit (.bool false)], args := [d1, d2] }
  | _ => none }
def InodeCodesWrongFalsely : Prop := inodeCodesRow.holds Tryd.pinned (OpenSpec.ofChange inodeCodesWrong)

/-- 'aquiferlaw17.InodeKeys': WHATEVER THE INPUT: true; the input reads as it did. -/
def inodeKeysSpec : ChangeSpec := { name := "inodeKeys", fn := fun _ => fun
  | [d1, d2] => { results := [.lit (.bool true)], args := [d1, d2] }
  | _ => none }
def inodeKeysRow : OpenClaim := { program := "ytbhioghpgedkeaadoor", sum := "97a6052afea0a63389348bc168b4ea4fdd53cac38828f58f304fa994cb3b5857", func := "aquifer/aquiferlaw17.InodeKeys", spec := "inodeKeys", inPlace := ["internal/bytealg.CountString", "internal/bytealg.IndexByteString", "internal/bytealg.IndexString", "internal/abi.NoEscape", "internal/bytealg.MakeNoZero"], named := ["unicode/utf8.first", "unicode/utf8.acceptRanges", "internal/bytealg.MaxLen"], apart := false, laid := [("unicode/utf8.acceptRanges", laid_unicode_utf8_acceptRanges), ("unicode/utf8.first", laid_unicode_utf8_first)] }
def InodeKeysSaid : Prop := inodeKeysRow.holds Tryd.pinned (OpenSpec.ofChange inodeKeysSpec)

/-- ITS FALSE NEIGHBOUR: 'it returns false'. Refute it at one input. -/
def inodeKeysWrong : ChangeSpec := { name := "inodeKeys", fn := fun _ => fun
  | [d1, d2] => { results := [.lit (.bool false)], args := [d1, d2] }
  | _ => none }
def InodeKeysWrongFalsely : Prop := inodeKeysRow.holds Tryd.pinned (OpenSpec.ofChange inodeKeysWrong)

/-- 'aquiferlaw17.InodeOrder': WHATEVER THE INPUT: true; the input reads as it did. -/
def inodeOrderSpec : ChangeSpec := { name := "inodeOrder", fn := fun _ => fun
  | [d1, d2] => { results := [.lit (.bool true)], args := [d1, d2] }
  | _ => none }
def inodeOrderRow : OpenClaim := { program := "ytbhioghpgedkeaadoor", sum := "97a6052afea0a63389348bc168b4ea4fdd53cac38828f58f304fa994cb3b5857", func := "aquifer/aquiferlaw17.InodeOrder", spec := "inodeOrder", inPlace := ["internal/bytealg.CountString", "internal/bytealg.IndexByteString", "internal/bytealg.IndexString", "internal/bytealg.abigen_runtime_cmpstring"], unfollowed := true, recurses := true, named := ["unicode/utf8.first", "unicode/utf8.acceptRanges", "internal/bytealg.MaxLen"], apart := false, laid := [("unicode/utf8.acceptRanges", laid_unicode_utf8_acceptRanges), ("unicode/utf8.first", laid_unicode_utf8_first)] }
def InodeOrderSaid : Prop := inodeOrderRow.holds Tryd.pinned (OpenSpec.ofChange inodeOrderSpec)

/-- ITS FALSE NEIGHBOUR: 'it returns false'. Refute it at one input. -/
def inodeOrderWrong : ChangeSpec := { name := "inodeOrder", fn := fun _ => fun
  | [d1, d2] => { results := [.lit (.bool false)], args := [d1, d2] }
  | _ => none }
def InodeOrderWrongFalsely : Prop := inodeOrderRow.holds Tryd.pinned (OpenSpec.ofChange inodeOrderWrong)

/-- 'aquiferlaw17.InodeBack': WHATEVER THE INPUT: true; the input reads as it did. -/
def inodeBackSpec : ChangeSpec := { name := "inodeBack", fn := fun _ => fun
  | [d1, d2, d3] => { results := [.lit (.bool true)], args := [d1, d2, d3] }
  | _ => none }
def inodeBackRow : OpenClaim := { program := "ytbhioghpgedkeaadoor", sum := "97a6052afea0a63389348bc168b4ea4fdd53cac38828f58f304fa994cb3b5857", func := "aquifer/aquiferlaw17.InodeBack", spec := "inodeBack", inPlace := ["internal/bytealg.CountString", "internal/bytealg.IndexByteString", "internal/bytealg.IndexString", "internal/abi.NoEscape", "internal/bytealg.MakeNoZero"], unfollowed := true, recurses := true, named := ["unicode/utf8.first", "unicode/utf8.acceptRanges", "internal/bytealg.MaxLen"], apart := false, laid := [("unicode/utf8.acceptRanges", laid_unicode_utf8_acceptRanges), ("unicode/utf8.first", laid_unicode_utf8_first)] }
def InodeBackSaid : Prop := inodeBackRow.holds Tryd.pinned (OpenSpec.ofChange inodeBackSpec)

/-- ITS FALSE NEIGHBOUR: 'it returns false'. Refute it at one input. -/
def inodeBackWrong : ChangeSpec := { name := "inodeBack", fn := fun _ => fun
  | [d1, d2, d3] => { results := [.lit (.bool false)], args := [d1, d2, d3] }
  | _ => none }
def InodeBackWrongFalsely : Prop := inodeBackRow.holds Tryd.pinned (OpenSpec.ofChange inodeBackWrong)

/- THE SECOND FORM. 'bulk': how many values and letters a reading holds, each counted each time it is reached (what is shared counts as often as it is met; a slice's spare places count too). A statement '..UptoSaid' is the law's where the arguments, and the package variables that the reading takes, are together of bulk at most 1048576: NARROWER than '..Said'. Prove '..Said' where nothing that the law and all that it calls make is longer than what came in: it says more and counts as full. Else prove '..UptoSaid'. A law counts once. -/
mutual
def uptoBulk {H : Type} : DataW H → Nat
  | .lit (.string bytes) => bytes.length + 1
  | .lit _ => 1
  | .nil => 1
  | .ptr d => uptoBulk d + 1
  | .slice elems spare => uptoBulkAll elems + uptoBulkAll spare + 1
  | .agg parts => uptoBulkAll parts + 1
  | .iface _ d => uptoBulk d + 1
  | .map entries => uptoBulkEntries entries + 1
  | .held _ => 1
def uptoBulkAll {H : Type} : List (DataW H) → Nat
  | [] => 0
  | d :: r => uptoBulk d + uptoBulkAll r
def uptoBulkEntries {H : Type} : List (Lit × DataW H) → Nat
  | [] => 0
  | x :: r => uptoBulkEntry x + uptoBulkEntries r
def uptoBulkEntry {H : Type} : Lit × DataW H → Nat
  | (.string bytes, d) => bytes.length + uptoBulk d + 1
  | (_, d) => uptoBulk d + 1
 end
def uptoSmall : (H : Type) → List (DataW H) → Bool := fun _ ds => decide (uptoBulkAll ds ≤ 1048576)
def OpenSpec.upto (s : _root_.Go.ChangeSpec) : _root_.Go.OpenSpec := { _root_.Go.OpenSpec.ofChange s with cond := some uptoSmall }

/-- 'aquiferlaw17.InodeTells', WHERE WHAT IT READS IS OF BULK AT MOST 1048576: true; the input reads as it did. -/
def inodeTellsUptoRow : OpenClaim := { program := "ytbhioghpgedkeaadoor", sum := "97a6052afea0a63389348bc168b4ea4fdd53cac38828f58f304fa994cb3b5857", func := "aquifer/aquiferlaw17.InodeTells", spec := "inodeTells", inPlace := ["internal/bytealg.CountString", "internal/bytealg.IndexByteString", "internal/bytealg.IndexString"], named := ["unicode/utf8.first", "unicode/utf8.acceptRanges", "internal/bytealg.MaxLen"], apart := false, laid := [("unicode/utf8.acceptRanges", laid_unicode_utf8_acceptRanges), ("unicode/utf8.first", laid_unicode_utf8_first)], narrowed := true }
def InodeTellsUptoSaid : Prop := inodeTellsUptoRow.holds Tryd.pinned (OpenSpec.upto inodeTellsSpec)

/-- 'aquiferlaw17.InodeStates', WHERE WHAT IT READS IS OF BULK AT MOST 1048576: true; the input reads as it did. -/
def inodeStatesUptoRow : OpenClaim := { program := "ytbhioghpgedkeaadoor", sum := "97a6052afea0a63389348bc168b4ea4fdd53cac38828f58f304fa994cb3b5857", func := "aquifer/aquiferlaw17.InodeStates", spec := "inodeStates", inPlace := ["internal/bytealg.CountString", "internal/bytealg.IndexByteString", "internal/bytealg.IndexString"], named := ["unicode/utf8.first", "unicode/utf8.acceptRanges", "internal/bytealg.MaxLen"], apart := false, laid := [("unicode/utf8.acceptRanges", laid_unicode_utf8_acceptRanges), ("unicode/utf8.first", laid_unicode_utf8_first)], narrowed := true }
def InodeStatesUptoSaid : Prop := inodeStatesUptoRow.holds Tryd.pinned (OpenSpec.upto inodeStatesSpec)

/-- 'aquiferlaw17.InodeArchs', WHERE WHAT IT READS IS OF BULK AT MOST 1048576: true; the input reads as it did. -/
def inodeArchsUptoRow : OpenClaim := { program := "ytbhioghpgedkeaadoor", sum := "97a6052afea0a63389348bc168b4ea4fdd53cac38828f58f304fa994cb3b5857", func := "aquifer/aquiferlaw17.InodeArchs", spec := "inodeArchs", inPlace := ["internal/bytealg.CountString", "internal/bytealg.IndexByteString", "internal/bytealg.IndexString"], unfollowed := true, recurses := true, named := ["unicode/utf8.first", "unicode/utf8.acceptRanges", "internal/bytealg.MaxLen"], apart := false, laid := [("unicode/utf8.acceptRanges", laid_unicode_utf8_acceptRanges), ("unicode/utf8.first", laid_unicode_utf8_first)], narrowed := true }
def InodeArchsUptoSaid : Prop := inodeArchsUptoRow.holds Tryd.pinned (OpenSpec.upto inodeArchsSpec)

/-- 'aquiferlaw17.InodeCodes', WHERE WHAT IT READS IS OF BULK AT MOST 1048576: true; the input reads as it did. -/
def inodeCodesUptoRow : OpenClaim := { program := "ytbhioghpgedkeaadoor", sum := "97a6052afea0a63389348bc168b4ea4fdd53cac38828f58f304fa994cb3b5857", func := "aquifer/aquiferlaw17.InodeCodes", spec := "inodeCodes", inPlace := ["internal/bytealg.CountString", "internal/bytealg.IndexByteString", "internal/bytealg.IndexString"], unfollowed := true, recurses := true, named := ["unicode/utf8.first", "unicode/utf8.acceptRanges", "internal/bytealg.MaxLen"], apart := false, laid := [("unicode/utf8.acceptRanges", laid_unicode_utf8_acceptRanges), ("unicode/utf8.first", laid_unicode_utf8_first)], narrowed := true }
def InodeCodesUptoSaid : Prop := inodeCodesUptoRow.holds Tryd.pinned (OpenSpec.upto inodeCodesSpec)

/-- 'aquiferlaw17.InodeKeys', WHERE WHAT IT READS IS OF BULK AT MOST 1048576: true; the input reads as it did. -/
def inodeKeysUptoRow : OpenClaim := { program := "ytbhioghpgedkeaadoor", sum := "97a6052afea0a63389348bc168b4ea4fdd53cac38828f58f304fa994cb3b5857", func := "aquifer/aquiferlaw17.InodeKeys", spec := "inodeKeys", inPlace := ["internal/bytealg.CountString", "internal/bytealg.IndexByteString", "internal/bytealg.IndexString", "internal/abi.NoEscape", "internal/bytealg.MakeNoZero"], named := ["unicode/utf8.first", "unicode/utf8.acceptRanges", "internal/bytealg.MaxLen"], apart := false, laid := [("unicode/utf8.acceptRanges", laid_unicode_utf8_acceptRanges), ("unicode/utf8.first", laid_unicode_utf8_first)], narrowed := true }
def InodeKeysUptoSaid : Prop := inodeKeysUptoRow.holds Tryd.pinned (OpenSpec.upto inodeKeysSpec)

/-- 'aquiferlaw17.InodeOrder', WHERE WHAT IT READS IS OF BULK AT MOST 1048576: true; the input reads as it did. -/
def inodeOrderUptoRow : OpenClaim := { program := "ytbhioghpgedkeaadoor", sum := "97a6052afea0a63389348bc168b4ea4fdd53cac38828f58f304fa994cb3b5857", func := "aquifer/aquiferlaw17.InodeOrder", spec := "inodeOrder", inPlace := ["internal/bytealg.CountString", "internal/bytealg.IndexByteString", "internal/bytealg.IndexString", "internal/bytealg.abigen_runtime_cmpstring"], unfollowed := true, recurses := true, named := ["unicode/utf8.first", "unicode/utf8.acceptRanges", "internal/bytealg.MaxLen"], apart := false, laid := [("unicode/utf8.acceptRanges", laid_unicode_utf8_acceptRanges), ("unicode/utf8.first", laid_unicode_utf8_first)], narrowed := true }
def InodeOrderUptoSaid : Prop := inodeOrderUptoRow.holds Tryd.pinned (OpenSpec.upto inodeOrderSpec)

/-- 'aquiferlaw17.InodeBack', WHERE WHAT IT READS IS OF BULK AT MOST 1048576: true; the input reads as it did. -/
def inodeBackUptoRow : OpenClaim := { program := "ytbhioghpgedkeaadoor", sum := "97a6052afea0a63389348bc168b4ea4fdd53cac38828f58f304fa994cb3b5857", func := "aquifer/aquiferlaw17.InodeBack", spec := "inodeBack", inPlace := ["internal/bytealg.CountString", "internal/bytealg.IndexByteString", "internal/bytealg.IndexString", "internal/abi.NoEscape", "internal/bytealg.MakeNoZero"], unfollowed := true, recurses := true, named := ["unicode/utf8.first", "unicode/utf8.acceptRanges", "internal/bytealg.MaxLen"], apart := false, laid := [("unicode/utf8.acceptRanges", laid_unicode_utf8_acceptRanges), ("unicode/utf8.first", laid_unicode_utf8_first)], narrowed := true }
def InodeBackUptoSaid : Prop := inodeBackUptoRow.holds Tryd.pinned (OpenSpec.upto inodeBackSpec)

end Rows
end Go.Proofs.YtbhioghpgedkeaaDoor
