/-
  DERIVED. GIVEN WITH THE SEED: THE CARDS: each row of YtjonnhjaiiingaaGreatDoorRows.lean that lists a variable, with what it lists TIED to the program's text (the seventh form; the later family's looks); each row that meets fmt, with fmt's text TOLD by the authors' own Lean function (tested against real Go, not proved from fmt's source: count such statements apart). THE CARD IS WHAT COUNTS. Prove the row's statement (the work); the ties are given (YtjonnhjaiiingaaGreatDoorTie.lean); close each card by the builder's one call (the guide's Derived/Test/ToyasCard.lean, 'card_holds'). Laid BY PROGRAM, IN A SANDBOX (cutbox-door.mjs). By AI agents, Wed Nov 11 2026. No macro, syntax, notation, axiom, sorry.
-/
import Derived.Test.YtjonnhjaiiingaaGreatDoorRows
import GoSem.ClaimSeven
namespace Go.Proofs.YtjonnhjaiiingaaGreatDoor
namespace Rows

/-- THE TIED CARD OF 'selvagelaw11.UnifiedPrints'. -/
def unifiedPrintsCard : Claim7 := { stood := { row := unifiedPrintsRow, standIns := [], harness := (true, "9c59f64dc6d8276bc6922c593e814fee17fbc0aed21707af360f1fdda75d18a0"), looks := true }, kinds := [], alts := [], laidByText := true, laidKinds := [.data, .data, .data, .handle], laidTests := true, laidLooks := .later }
def UnifiedPrintsCardSaid : Prop := Claim7.holds Tryz.pinned (.plain (OpenSpec.ofChange unifiedPrintsSpec)) unifiedPrintsCard

/-- THE TIED CARD OF 'selvagelaw11.UnifiedBack'. -/
def unifiedBackCard : Claim7 := { stood := { row := unifiedBackRow, standIns := [], harness := (true, "9c59f64dc6d8276bc6922c593e814fee17fbc0aed21707af360f1fdda75d18a0"), looks := true }, kinds := [], alts := [], laidByText := true, laidKinds := [.data, .data, .data, .handle], laidTests := true, laidLooks := .later }
def UnifiedBackCardSaid : Prop := Claim7.holds Tryz.pinned (.plain (OpenSpec.ofChange unifiedBackSpec)) unifiedBackCard

/-- THE TIED CARD OF 'selvagelaw11.UnifiedRest'. -/
def unifiedRestCard : Claim7 := { stood := { row := unifiedRestRow, standIns := [], harness := (true, "9c59f64dc6d8276bc6922c593e814fee17fbc0aed21707af360f1fdda75d18a0"), looks := true }, kinds := [], alts := [], laidByText := true, laidKinds := [.data, .data, .data, .handle], laidTests := true, laidLooks := .later }
def UnifiedRestCardSaid : Prop := Claim7.holds Tryz.pinned (.plain (OpenSpec.ofChange unifiedRestSpec)) unifiedRestCard

/-- THE SECOND FORM's CARD OF 'selvagelaw11.UnifiedPrints'. -/
def unifiedPrintsUptoCard : Claim7 := { stood := { row := unifiedPrintsUptoRow, standIns := [], harness := (true, "9c59f64dc6d8276bc6922c593e814fee17fbc0aed21707af360f1fdda75d18a0"), looks := true }, kinds := [], alts := [], laidByText := true, laidKinds := [.data, .data, .data, .handle], laidTests := true, laidLooks := .later }
def UnifiedPrintsUptoCardSaid : Prop := Claim7.holds Tryz.pinned (.plain (OpenSpec.upto unifiedPrintsSpec)) unifiedPrintsUptoCard

/-- THE SECOND FORM's CARD OF 'selvagelaw11.UnifiedBack'. -/
def unifiedBackUptoCard : Claim7 := { stood := { row := unifiedBackUptoRow, standIns := [], harness := (true, "9c59f64dc6d8276bc6922c593e814fee17fbc0aed21707af360f1fdda75d18a0"), looks := true }, kinds := [], alts := [], laidByText := true, laidKinds := [.data, .data, .data, .handle], laidTests := true, laidLooks := .later }
def UnifiedBackUptoCardSaid : Prop := Claim7.holds Tryz.pinned (.plain (OpenSpec.upto unifiedBackSpec)) unifiedBackUptoCard

/-- THE SECOND FORM's CARD OF 'selvagelaw11.UnifiedRest'. -/
def unifiedRestUptoCard : Claim7 := { stood := { row := unifiedRestUptoRow, standIns := [], harness := (true, "9c59f64dc6d8276bc6922c593e814fee17fbc0aed21707af360f1fdda75d18a0"), looks := true }, kinds := [], alts := [], laidByText := true, laidKinds := [.data, .data, .data, .handle], laidTests := true, laidLooks := .later }
def UnifiedRestUptoCardSaid : Prop := Claim7.holds Tryz.pinned (.plain (OpenSpec.upto unifiedRestSpec)) unifiedRestUptoCard
end Rows
end Go.Proofs.YtjonnhjaiiingaaGreatDoor
