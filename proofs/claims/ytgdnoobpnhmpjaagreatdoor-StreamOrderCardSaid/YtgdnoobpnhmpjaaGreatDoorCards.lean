/-
  DERIVED. GIVEN WITH THE SEED: THE CARDS: each row of YtgdnoobpnhmpjaaGreatDoorRows.lean that lists a variable, with what it lists TIED to the program's text (the seventh form; the later family's looks); each row that meets fmt, with fmt's text TOLD by the authors' own Lean function (tested against real Go, not proved from fmt's source: count such statements apart). THE CARD IS WHAT COUNTS. Prove the row's statement (the work); the ties are given (YtgdnoobpnhmpjaaGreatDoorTie.lean); close each card by the builder's one call (the guide's Derived/Test/ToyasCard.lean, 'card_holds'). Laid BY PROGRAM, IN A SANDBOX (cutbox-door.mjs). By AI agents, Wed Nov 11 2026. No macro, syntax, notation, axiom, sorry.
-/
import Derived.Test.YtgdnoobpnhmpjaaGreatDoorRows
import GoSem.ClaimSeven
namespace Go.Proofs.YtgdnoobpnhmpjaaGreatDoor
namespace Rows

/-- THE TIED CARD OF 'selvagelaw28.StreamOrder'. -/
def streamOrderCard : Claim7 := { stood := { row := streamOrderRow, standIns := [], harness := (true, "06f1adb0d1ecedb28c2ee27374a48ca6ce8633a34f9b6a175c3739246d405256"), looks := true }, kinds := [], alts := [], laidByText := true, laidKinds := [.data, .data, .data, .data, .handle, .sentinel, .sentinel, .pinned], laidTests := true, laidLooks := .later }
def StreamOrderCardSaid : Prop := Claim7.holds Tryz.pinned (.plain (OpenSpec.ofChange streamOrderSpec)) streamOrderCard

/-- THE TIED CARD OF 'selvagelaw28.StreamTurned'. -/
def streamTurnedCard : Claim7 := { stood := { row := streamTurnedRow, standIns := [], harness := (true, "06f1adb0d1ecedb28c2ee27374a48ca6ce8633a34f9b6a175c3739246d405256"), looks := true }, kinds := [], alts := [], laidByText := true, laidKinds := [.data, .data, .data, .data, .handle, .sentinel, .sentinel, .pinned], laidTests := true, laidLooks := .later }
def StreamTurnedCardSaid : Prop := Claim7.holds Tryz.pinned (.plain (OpenSpec.ofChange streamTurnedSpec)) streamTurnedCard

/-- THE TIED CARD OF 'selvagelaw28.StreamTotals'. -/
def streamTotalsCard : Claim7 := { stood := { row := streamTotalsRow, standIns := [], harness := (true, "06f1adb0d1ecedb28c2ee27374a48ca6ce8633a34f9b6a175c3739246d405256"), looks := true }, kinds := [], alts := [], laidByText := true, laidKinds := [.data, .data, .data, .data, .handle, .sentinel, .sentinel, .pinned], laidTests := true, laidLooks := .later }
def StreamTotalsCardSaid : Prop := Claim7.holds Tryz.pinned (.plain (OpenSpec.ofChange streamTotalsSpec)) streamTotalsCard

/-- THE TIED CARD OF 'selvagelaw28.StreamRecounts'. -/
def streamRecountsCard : Claim7 := { stood := { row := streamRecountsRow, standIns := [], harness := (true, "06f1adb0d1ecedb28c2ee27374a48ca6ce8633a34f9b6a175c3739246d405256"), looks := true }, kinds := [], alts := [], laidByText := true, laidKinds := [.data, .data, .data, .data, .handle, .sentinel, .sentinel, .pinned], laidTests := true, laidLooks := .later }
def StreamRecountsCardSaid : Prop := Claim7.holds Tryz.pinned (.plain (OpenSpec.ofChange streamRecountsSpec)) streamRecountsCard

/-- THE SECOND FORM's CARD OF 'selvagelaw28.StreamOrder'. -/
def streamOrderUptoCard : Claim7 := { stood := { row := streamOrderUptoRow, standIns := [], harness := (true, "06f1adb0d1ecedb28c2ee27374a48ca6ce8633a34f9b6a175c3739246d405256"), looks := true }, kinds := [], alts := [], laidByText := true, laidKinds := [.data, .data, .data, .data, .handle, .sentinel, .sentinel, .pinned], laidTests := true, laidLooks := .later }
def StreamOrderUptoCardSaid : Prop := Claim7.holds Tryz.pinned (.plain (OpenSpec.upto streamOrderSpec)) streamOrderUptoCard

/-- THE SECOND FORM's CARD OF 'selvagelaw28.StreamTurned'. -/
def streamTurnedUptoCard : Claim7 := { stood := { row := streamTurnedUptoRow, standIns := [], harness := (true, "06f1adb0d1ecedb28c2ee27374a48ca6ce8633a34f9b6a175c3739246d405256"), looks := true }, kinds := [], alts := [], laidByText := true, laidKinds := [.data, .data, .data, .data, .handle, .sentinel, .sentinel, .pinned], laidTests := true, laidLooks := .later }
def StreamTurnedUptoCardSaid : Prop := Claim7.holds Tryz.pinned (.plain (OpenSpec.upto streamTurnedSpec)) streamTurnedUptoCard

/-- THE SECOND FORM's CARD OF 'selvagelaw28.StreamTotals'. -/
def streamTotalsUptoCard : Claim7 := { stood := { row := streamTotalsUptoRow, standIns := [], harness := (true, "06f1adb0d1ecedb28c2ee27374a48ca6ce8633a34f9b6a175c3739246d405256"), looks := true }, kinds := [], alts := [], laidByText := true, laidKinds := [.data, .data, .data, .data, .handle, .sentinel, .sentinel, .pinned], laidTests := true, laidLooks := .later }
def StreamTotalsUptoCardSaid : Prop := Claim7.holds Tryz.pinned (.plain (OpenSpec.upto streamTotalsSpec)) streamTotalsUptoCard

/-- THE SECOND FORM's CARD OF 'selvagelaw28.StreamRecounts'. -/
def streamRecountsUptoCard : Claim7 := { stood := { row := streamRecountsUptoRow, standIns := [], harness := (true, "06f1adb0d1ecedb28c2ee27374a48ca6ce8633a34f9b6a175c3739246d405256"), looks := true }, kinds := [], alts := [], laidByText := true, laidKinds := [.data, .data, .data, .data, .handle, .sentinel, .sentinel, .pinned], laidTests := true, laidLooks := .later }
def StreamRecountsUptoCardSaid : Prop := Claim7.holds Tryz.pinned (.plain (OpenSpec.upto streamRecountsSpec)) streamRecountsUptoCard
end Rows
end Go.Proofs.YtgdnoobpnhmpjaaGreatDoor
