/-
  DERIVED. GIVEN WITH THE SEED: THE CARDS: each row of YthkedonibhajbaaGreatDoorRows.lean that lists a variable, with what it lists TIED to the program's text (the seventh form; the later family's looks); each row that meets fmt, with fmt's text TOLD by the authors' own Lean function (tested against real Go, not proved from fmt's source: count such statements apart). THE CARD IS WHAT COUNTS. Prove the row's statement (the work); the ties are given (YthkedonibhajbaaGreatDoorTie.lean); close each card by the builder's one call (the guide's Derived/Test/ToyasCard.lean, 'card_holds'). Laid BY PROGRAM, IN A SANDBOX (cutbox-door.mjs). By AI agents, Wed Nov 11 2026. No macro, syntax, notation, axiom, sorry.
-/
import Derived.Test.YthkedonibhajbaaGreatDoorRows
import GoSem.ClaimSeven
namespace Go.Proofs.YthkedonibhajbaaGreatDoor
namespace Rows

/-- THE TIED CARD OF 'selvagelaw16.StatCosts'. -/
def statCostsCard : Claim7 := { stood := { row := statCostsRow, standIns := [], harness := (true, "9607342f91b6be09686c78cfe9b095b301254a02a895055b1500b5fdeee1a743"), looks := true }, kinds := [], alts := [], laidByText := true, laidKinds := [.data, .data, .data, .handle], laidTests := true, laidLooks := .later }
def StatCostsCardSaid : Prop := Claim7.holds Tryz.pinned (.plain (OpenSpec.ofChange statCostsSpec)) statCostsCard

/-- THE SECOND FORM's CARD OF 'selvagelaw16.StatCosts'. -/
def statCostsUptoCard : Claim7 := { stood := { row := statCostsUptoRow, standIns := [], harness := (true, "9607342f91b6be09686c78cfe9b095b301254a02a895055b1500b5fdeee1a743"), looks := true }, kinds := [], alts := [], laidByText := true, laidKinds := [.data, .data, .data, .handle], laidTests := true, laidLooks := .later }
def StatCostsUptoCardSaid : Prop := Claim7.holds Tryz.pinned (.plain (OpenSpec.upto statCostsSpec)) statCostsUptoCard
end Rows
end Go.Proofs.YthkedonibhajbaaGreatDoor
