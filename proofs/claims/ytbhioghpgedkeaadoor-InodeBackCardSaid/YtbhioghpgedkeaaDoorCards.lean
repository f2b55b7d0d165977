/-
  DERIVED. GIVEN WITH THE SEED: THE CARDS: each row of YtbhioghpgedkeaaDoorRows.lean that lists a variable, with what it lists TIED to the program's text (the seventh form; the later family's looks); each row that meets fmt, with fmt's text TOLD by the authors' own Lean function (tested against real Go, not proved from fmt's source: count such statements apart). THE CARD IS WHAT COUNTS. Prove the row's statement (the work); the ties are given (YtbhioghpgedkeaaDoorTie.lean); close each card by the builder's one call (the guide's Derived/Test/ToyasCard.lean, 'card_holds'). Laid BY PROGRAM, IN A SANDBOX (cutbox-door.mjs). By AI agents, Wed Nov 11 2026. No macro, syntax, notation, axiom, sorry.
-/
import Derived.Test.YtbhioghpgedkeaaDoorRows
import GoSem.ClaimSeven
namespace Go.Proofs.YtbhioghpgedkeaaDoor
namespace Rows

/-- THE TIED CARD OF 'aquiferlaw17.InodeTells'. -/
def inodeTellsCard : Claim7 := { stood := { row := inodeTellsRow, standIns := [], harness := (true, "38d4c80dff82a1187346991df0979e1e02543f73e000ff97cb2df0982b8e6065"), looks := false }, kinds := [], alts := [], laidByText := true, laidKinds := [.data, .pinned], laidTests := true, laidLooks := .later }
def InodeTellsCardSaid : Prop := Claim7.holds Tryd.pinned (.plain (OpenSpec.ofChange inodeTellsSpec)) inodeTellsCard

/-- THE TIED CARD OF 'aquiferlaw17.InodeStates'. -/
def inodeStatesCard : Claim7 := { stood := { row := inodeStatesRow, standIns := [], harness := (true, "38d4c80dff82a1187346991df0979e1e02543f73e000ff97cb2df0982b8e6065"), looks := false }, kinds := [], alts := [], laidByText := true, laidKinds := [.data, .pinned], laidTests := true, laidLooks := .later }
def InodeStatesCardSaid : Prop := Claim7.holds Tryd.pinned (.plain (OpenSpec.ofChange inodeStatesSpec)) inodeStatesCard

/-- THE TIED CARD OF 'aquiferlaw17.InodeArchs'. -/
def inodeArchsCard : Claim7 := { stood := { row := inodeArchsRow, standIns := [], harness := (true, "38d4c80dff82a1187346991df0979e1e02543f73e000ff97cb2df0982b8e6065"), looks := false }, kinds := [], alts := [], laidByText := true, laidKinds := [.data, .pinned], laidTests := true, laidLooks := .later }
def InodeArchsCardSaid : Prop := Claim7.holds Tryd.pinned (.plain (OpenSpec.ofChange inodeArchsSpec)) inodeArchsCard

/-- THE TIED CARD OF 'aquiferlaw17.InodeCodes'. -/
def inodeCodesCard : Claim7 := { stood := { row := inodeCodesRow, standIns := [], harness := (true, "38d4c80dff82a1187346991df0979e1e02543f73e000ff97cb2df0982b8e6065"), looks := false }, kinds := [], alts := [], laidByText := true, laidKinds := [.data, .pinned], laidTests := true, laidLooks := .later }
def InodeCodesCardSaid : Prop := Claim7.holds Tryd.pinned (.plain (OpenSpec.ofChange inodeCodesSpec)) inodeCodesCard

/-- THE TIED CARD OF 'aquiferlaw17.InodeKeys'. -/
def inodeKeysCard : Claim7 := { stood := { row := inodeKeysRow, standIns := [], harness := (true, "38d4c80dff82a1187346991df0979e1e02543f73e000ff97cb2df0982b8e6065"), looks := false }, kinds := [], alts := [], laidByText := true, laidKinds := [.data, .pinned], laidTests := true, laidLooks := .later }
def InodeKeysCardSaid : Prop := Claim7.holds Tryd.pinned (.plain (OpenSpec.ofChange inodeKeysSpec)) inodeKeysCard

/-- THE TIED CARD OF 'aquiferlaw17.InodeOrder'. -/
def inodeOrderCard : Claim7 := { stood := { row := inodeOrderRow, standIns := [], harness := (true, "38d4c80dff82a1187346991df0979e1e02543f73e000ff97cb2df0982b8e6065"), looks := false }, kinds := [], alts := [], laidByText := true, laidKinds := [.data, .pinned], laidTests := true, laidLooks := .later }
def InodeOrderCardSaid : Prop := Claim7.holds Tryd.pinned (.plain (OpenSpec.ofChange inodeOrderSpec)) inodeOrderCard

/-- THE TIED CARD OF 'aquiferlaw17.InodeBack'. -/
def inodeBackCard : Claim7 := { stood := { row := inodeBackRow, standIns := [], harness := (true, "38d4c80dff82a1187346991df0979e1e02543f73e000ff97cb2df0982b8e6065"), looks := false }, kinds := [], alts := [], laidByText := true, laidKinds := [.data, .pinned], laidTests := true, laidLooks := .later }
def InodeBackCardSaid : Prop := Claim7.holds Tryd.pinned (.plain (OpenSpec.ofChange inodeBackSpec)) inodeBackCard

/-- THE SECOND FORM's CARD OF 'aquiferlaw17.InodeTells'. -/
def inodeTellsUptoCard : Claim7 := { stood := { row := inodeTellsUptoRow, standIns := [], harness := (true, "38d4c80dff82a1187346991df0979e1e02543f73e000ff97cb2df0982b8e6065"), looks := false }, kinds := [], alts := [], laidByText := true, laidKinds := [.data, .pinned], laidTests := true, laidLooks := .later }
def InodeTellsUptoCardSaid : Prop := Claim7.holds Tryd.pinned (.plain (OpenSpec.upto inodeTellsSpec)) inodeTellsUptoCard

/-- THE SECOND FORM's CARD OF 'aquiferlaw17.InodeStates'. -/
def inodeStatesUptoCard : Claim7 := { stood := { row := inodeStatesUptoRow, standIns := [], harness := (true, "38d4c80dff82a1187346991df0979e1e02543f73e000ff97cb2df0982b8e6065"), looks := false }, kinds := [], alts := [], laidByText := true, laidKinds := [.data, .pinned], laidTests := true, laidLooks := .later }
def InodeStatesUptoCardSaid : Prop := Claim7.holds Tryd.pinned (.plain (OpenSpec.upto inodeStatesSpec)) inodeStatesUptoCard

/-- THE SECOND FORM's CARD OF 'aquiferlaw17.InodeArchs'. -/
def inodeArchsUptoCard : Claim7 := { stood := { row := inodeArchsUptoRow, standIns := [], harness := (true, "38d4c80dff82a1187346991df0979e1e02543f73e000ff97cb2df0982b8e6065"), looks := false }, kinds := [], alts := [], laidByText := true, laidKinds := [.data, .pinned], laidTests := true, laidLooks := .later }
def InodeArchsUptoCardSaid : Prop := Claim7.holds Tryd.pinned (.plain (OpenSpec.upto inodeArchsSpec)) inodeArchsUptoCard

/-- THE SECOND FORM's CARD OF 'aquiferlaw17.InodeCodes'. -/
def inodeCodesUptoCard : Claim7 := { stood := { row := inodeCodesUptoRow, standIns := [], harness := (true, "38d4c80dff82a1187346991df0979e1e02543f73e000ff97cb2df0982b8e6065"), looks := false }, kinds := [], alts := [], laidByText := true, laidKinds := [.data, .pinned], laidTests := true, laidLooks := .later }
def InodeCodesUptoCardSaid : Prop := Claim7.holds Tryd.pinned (.plain (OpenSpec.upto inodeCodesSpec)) inodeCodesUptoCard

/-- THE SECOND FORM's CARD OF 'aquiferlaw17.InodeKeys'. -/
def inodeKeysUptoCard : Claim7 := { stood := { row := inodeKeysUptoRow, standIns := [], harness := (true, "38d4c80dff82a1187346991df0979e1e02543f73e000ff97cb2df0982b8e6065"), looks := false }, kinds := [], alts := [], laidByText := true, laidKinds := [.data, .pinned], laidTests := true, laidLooks := .later }
def InodeKeysUptoCardSaid : Prop := Claim7.holds Tryd.pinned (.plain (OpenSpec.upto inodeKeysSpec)) inodeKeysUptoCard

/-- THE SECOND FORM's CARD OF 'aquiferlaw17.InodeOrder'. -/
def inodeOrderUptoCard : Claim7 := { stood := { row := inodeOrderUptoRow, standIns := [], harness := (true, "38d4c80dff82a1187346991df0979e1e02543f73e000ff97cb2df0982b8e6065"), looks := false }, kinds := [], alts := [], laidByText := true, laidKinds := [.data, .pinned], laidTests := true, laidLooks := .later }
def InodeOrderUptoCardSaid : Prop := Claim7.holds Tryd.pinned (.plain (OpenSpec.upto inodeOrderSpec)) inodeOrderUptoCard

/-- THE SECOND FORM's CARD OF 'aquiferlaw17.InodeBack'. -/
def inodeBackUptoCard : Claim7 := { stood := { row := inodeBackUptoRow, standIns := [], harness := (true, "38d4c80dff82a1187346991df0979e1e02543f73e000ff97cb2df0982b8e6065"), looks := false }, kinds := [], alts := [], laidByText := true, laidKinds := [.data, .pinned], laidTests := true, laidLooks := .later }
def InodeBackUptoCardSaid : Prop := Claim7.holds Tryd.pinned (.plain (OpenSpec.upto inodeBackSpec)) inodeBackUptoCard
end Rows
end Go.Proofs.YtbhioghpgedkeaaDoor
