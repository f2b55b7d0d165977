/-
  DERIVED. GIVEN WITH THE SEED: THE CARDS: each row of YtfnbadfehelleaaDoorRows.lean that lists a variable, with what it lists TIED to the program's text (the seventh form; the later family's looks); each row that meets fmt, with fmt's text TOLD by the authors' own Lean function (tested against real Go, not proved from fmt's source: count such statements apart). THE CARD IS WHAT COUNTS. Prove the row's statement (the work); the ties are given (YtfnbadfehelleaaDoorTie.lean); close each card by the builder's one call (the guide's Derived/Test/ToyasCard.lean, 'card_holds'). Laid BY PROGRAM, IN A SANDBOX (cutbox-door.mjs). By AI agents, Wed Nov 11 2026. No macro, syntax, notation, axiom, sorry.
-/
import Derived.Test.YtfnbadfehelleaaDoorRows
import GoSem.ClaimSeven
namespace Go.Proofs.YtfnbadfehelleaaDoor
namespace Rows

/-- THE TIED CARD OF 'aquiferlaw05.PathClean'. -/
def pathCleanCard : Claim7 := { stood := { row := pathCleanRow, standIns := [], harness := (true, "5ad07fcc7d71bc120e03ed346c6ffc00981704540bd452c801d0bae5946e372e"), looks := false }, kinds := [], alts := [], laidByText := true, laidKinds := [.data, .pinned], laidTests := true, laidLooks := .later }
def PathCleanCardSaid : Prop := Claim7.holds Tryd.pinned (.plain (OpenSpec.ofChange pathCleanSpec)) pathCleanCard

/-- THE TIED CARD OF 'aquiferlaw05.PathCopies'. -/
def pathCopiesCard : Claim7 := { stood := { row := pathCopiesRow, standIns := [], harness := (true, "5ad07fcc7d71bc120e03ed346c6ffc00981704540bd452c801d0bae5946e372e"), looks := false }, kinds := [], alts := [], laidByText := true, laidKinds := [.data, .pinned], laidTests := true, laidLooks := .later }
def PathCopiesCardSaid : Prop := Claim7.holds Tryd.pinned (.plain (OpenSpec.ofChange pathCopiesSpec)) pathCopiesCard

/-- THE TIED CARD OF 'aquiferlaw05.PathOrder'. -/
def pathOrderCard : Claim7 := { stood := { row := pathOrderRow, standIns := [], harness := (true, "5ad07fcc7d71bc120e03ed346c6ffc00981704540bd452c801d0bae5946e372e"), looks := false }, kinds := [], alts := [], laidByText := true, laidKinds := [.data, .pinned], laidTests := true, laidLooks := .later }
def PathOrderCardSaid : Prop := Claim7.holds Tryd.pinned (.plain (OpenSpec.ofChange pathOrderSpec)) pathOrderCard

/-- THE TIED CARD OF 'aquiferlaw05.PathKinds'. -/
def pathKindsCard : Claim7 := { stood := { row := pathKindsRow, standIns := [], harness := (true, "5ad07fcc7d71bc120e03ed346c6ffc00981704540bd452c801d0bae5946e372e"), looks := false }, kinds := [], alts := [], laidByText := true, laidKinds := [.data, .pinned], laidTests := true, laidLooks := .later }
def PathKindsCardSaid : Prop := Claim7.holds Tryd.pinned (.plain (OpenSpec.ofChange pathKindsSpec)) pathKindsCard

/-- THE TIED CARD OF 'aquiferlaw05.PathPairs'. -/
def pathPairsCard : Claim7 := { stood := { row := pathPairsRow, standIns := [], harness := (true, "5ad07fcc7d71bc120e03ed346c6ffc00981704540bd452c801d0bae5946e372e"), looks := false }, kinds := [], alts := [], laidByText := true, laidKinds := [.data, .pinned], laidTests := true, laidLooks := .later }
def PathPairsCardSaid : Prop := Claim7.holds Tryd.pinned (.plain (OpenSpec.ofChange pathPairsSpec)) pathPairsCard

/-- THE TIED CARD OF 'aquiferlaw05.PathThere'. -/
def pathThereCard : Claim7 := { stood := { row := pathThereRow, standIns := [], harness := (true, "5ad07fcc7d71bc120e03ed346c6ffc00981704540bd452c801d0bae5946e372e"), looks := false }, kinds := [], alts := [], laidByText := true, laidKinds := [.data, .pinned], laidTests := true, laidLooks := .later }
def PathThereCardSaid : Prop := Claim7.holds Tryd.pinned (.plain (OpenSpec.ofChange pathThereSpec)) pathThereCard

/-- THE TIED CARD OF 'aquiferlaw05.PathParts'. -/
def pathPartsCard : Claim7 := { stood := { row := pathPartsRow, standIns := [], harness := (true, "5ad07fcc7d71bc120e03ed346c6ffc00981704540bd452c801d0bae5946e372e"), looks := false }, kinds := [], alts := [], laidByText := true, laidKinds := [.data, .pinned], laidTests := true, laidLooks := .later }
def PathPartsCardSaid : Prop := Claim7.holds Tryd.pinned (.plain (OpenSpec.ofChange pathPartsSpec)) pathPartsCard

/-- THE SECOND FORM's CARD OF 'aquiferlaw05.PathClean'. -/
def pathCleanUptoCard : Claim7 := { stood := { row := pathCleanUptoRow, standIns := [], harness := (true, "5ad07fcc7d71bc120e03ed346c6ffc00981704540bd452c801d0bae5946e372e"), looks := false }, kinds := [], alts := [], laidByText := true, laidKinds := [.data, .pinned], laidTests := true, laidLooks := .later }
def PathCleanUptoCardSaid : Prop := Claim7.holds Tryd.pinned (.plain (OpenSpec.upto pathCleanSpec)) pathCleanUptoCard

/-- THE SECOND FORM's CARD OF 'aquiferlaw05.PathCopies'. -/
def pathCopiesUptoCard : Claim7 := { stood := { row := pathCopiesUptoRow, standIns := [], harness := (true, "5ad07fcc7d71bc120e03ed346c6ffc00981704540bd452c801d0bae5946e372e"), looks := false }, kinds := [], alts := [], laidByText := true, laidKinds := [.data, .pinned], laidTests := true, laidLooks := .later }
def PathCopiesUptoCardSaid : Prop := Claim7.holds Tryd.pinned (.plain (OpenSpec.upto pathCopiesSpec)) pathCopiesUptoCard

/-- THE SECOND FORM's CARD OF 'aquiferlaw05.PathOrder'. -/
def pathOrderUptoCard : Claim7 := { stood := { row := pathOrderUptoRow, standIns := [], harness := (true, "5ad07fcc7d71bc120e03ed346c6ffc00981704540bd452c801d0bae5946e372e"), looks := false }, kinds := [], alts := [], laidByText := true, laidKinds := [.data, .pinned], laidTests := true, laidLooks := .later }
def PathOrderUptoCardSaid : Prop := Claim7.holds Tryd.pinned (.plain (OpenSpec.upto pathOrderSpec)) pathOrderUptoCard

/-- THE SECOND FORM's CARD OF 'aquiferlaw05.PathKinds'. -/
def pathKindsUptoCard : Claim7 := { stood := { row := pathKindsUptoRow, standIns := [], harness := (true, "5ad07fcc7d71bc120e03ed346c6ffc00981704540bd452c801d0bae5946e372e"), looks := false }, kinds := [], alts := [], laidByText := true, laidKinds := [.data, .pinned], laidTests := true, laidLooks := .later }
def PathKindsUptoCardSaid : Prop := Claim7.holds Tryd.pinned (.plain (OpenSpec.upto pathKindsSpec)) pathKindsUptoCard

/-- THE SECOND FORM's CARD OF 'aquiferlaw05.PathPairs'. -/
def pathPairsUptoCard : Claim7 := { stood := { row := pathPairsUptoRow, standIns := [], harness := (true, "5ad07fcc7d71bc120e03ed346c6ffc00981704540bd452c801d0bae5946e372e"), looks := false }, kinds := [], alts := [], laidByText := true, laidKinds := [.data, .pinned], laidTests := true, laidLooks := .later }
def PathPairsUptoCardSaid : Prop := Claim7.holds Tryd.pinned (.plain (OpenSpec.upto pathPairsSpec)) pathPairsUptoCard

/-- THE SECOND FORM's CARD OF 'aquiferlaw05.PathThere'. -/
def pathThereUptoCard : Claim7 := { stood := { row := pathThereUptoRow, standIns := [], harness := (true, "5ad07fcc7d71bc120e03ed346c6ffc00981704540bd452c801d0bae5946e372e"), looks := false }, kinds := [], alts := [], laidByText := true, laidKinds := [.data, .pinned], laidTests := true, laidLooks := .later }
def PathThereUptoCardSaid : Prop := Claim7.holds Tryd.pinned (.plain (OpenSpec.upto pathThereSpec)) pathThereUptoCard

/-- THE SECOND FORM's CARD OF 'aquiferlaw05.PathParts'. -/
def pathPartsUptoCard : Claim7 := { stood := { row := pathPartsUptoRow, standIns := [], harness := (true, "5ad07fcc7d71bc120e03ed346c6ffc00981704540bd452c801d0bae5946e372e"), looks := false }, kinds := [], alts := [], laidByText := true, laidKinds := [.data, .pinned], laidTests := true, laidLooks := .later }
def PathPartsUptoCardSaid : Prop := Claim7.holds Tryd.pinned (.plain (OpenSpec.upto pathPartsSpec)) pathPartsUptoCard
end Rows
end Go.Proofs.YtfnbadfehelleaaDoor
