/-
  DERIVED. GIVEN WITH THE SEED: THE CARDS: each row of YtebgkjjbbnbnlaaGreatDoorRows.lean that lists a variable, with what it lists TIED to the program's text (the seventh form; the later family's looks); each row that meets fmt, with fmt's text TOLD by the authors' own Lean function (tested against real Go, not proved from fmt's source: count such statements apart). THE CARD IS WHAT COUNTS. Prove the row's statement (the work); the ties are given (YtebgkjjbbnbnlaaGreatDoorTie.lean); close each card by the builder's one call (the guide's Derived/Test/ToyasCard.lean, 'card_holds'). Laid BY PROGRAM, IN A SANDBOX (cutbox-door.mjs). By AI agents, Wed Nov 11 2026. No macro, syntax, notation, axiom, sorry.
-/
import Derived.Test.YtebgkjjbbnbnlaaGreatDoorRows
import GoSem.ClaimSeven
namespace Go.Proofs.YtebgkjjbbnbnlaaGreatDoor
namespace Rows

/-- THE TIED CARD OF 'selvagelaw12.ContextPrints'. -/
def contextPrintsCard : Claim7 := { stood := { row := contextPrintsRow, standIns := [], harness := (true, "99da87e55cb582f6b77d687beee72cdc75ac9dc64a5a9ef5013de4629a41fee7"), looks := true }, kinds := [], alts := [], laidByText := true, laidKinds := [.data, .data, .data, .data, .handle, .sentinel, .sentinel, .pinned], laidTests := true, laidLooks := .later }
def ContextPrintsCardSaid : Prop := Claim7.holds Tryz.pinned (.plain (OpenSpec.ofChange contextPrintsSpec)) contextPrintsCard

/-- THE TIED CARD OF 'selvagelaw12.ContextReads'. -/
def contextReadsCard : Claim7 := { stood := { row := contextReadsRow, standIns := [], harness := (true, "99da87e55cb582f6b77d687beee72cdc75ac9dc64a5a9ef5013de4629a41fee7"), looks := true }, kinds := [], alts := [], laidByText := true, laidKinds := [.data, .data, .data, .data, .handle, .sentinel, .sentinel, .pinned], laidTests := true, laidLooks := .later }
def ContextReadsCardSaid : Prop := Claim7.holds Tryz.pinned (.plain (OpenSpec.ofChange contextReadsSpec)) contextReadsCard

/-- THE TIED CARD OF 'selvagelaw12.ContextBack'. -/
def contextBackCard : Claim7 := { stood := { row := contextBackRow, standIns := [], harness := (true, "99da87e55cb582f6b77d687beee72cdc75ac9dc64a5a9ef5013de4629a41fee7"), looks := true }, kinds := [], alts := [], laidByText := true, laidKinds := [.data, .data, .data, .data, .handle, .sentinel, .sentinel, .pinned], laidTests := true, laidLooks := .later }
def ContextBackCardSaid : Prop := Claim7.holds Tryz.pinned (.plain (OpenSpec.ofChange contextBackSpec)) contextBackCard

/-- THE TIED CARD OF 'selvagelaw12.ContextOwn'. -/
def contextOwnCard : Claim7 := { stood := { row := contextOwnRow, standIns := [], harness := (true, "99da87e55cb582f6b77d687beee72cdc75ac9dc64a5a9ef5013de4629a41fee7"), looks := true }, kinds := [], alts := [], laidByText := true, laidKinds := [.data, .data, .data, .data, .handle, .sentinel, .sentinel, .pinned], laidTests := true, laidLooks := .later }
def ContextOwnCardSaid : Prop := Claim7.holds Tryz.pinned (.plain (OpenSpec.ofChange contextOwnSpec)) contextOwnCard

/-- THE TIED CARD OF 'selvagelaw12.ContextUnified'. -/
def contextUnifiedCard : Claim7 := { stood := { row := contextUnifiedRow, standIns := [], harness := (true, "99da87e55cb582f6b77d687beee72cdc75ac9dc64a5a9ef5013de4629a41fee7"), looks := true }, kinds := [], alts := [], laidByText := true, laidKinds := [.data, .data, .data, .data, .handle, .sentinel, .sentinel, .pinned], laidTests := true, laidLooks := .later }
def ContextUnifiedCardSaid : Prop := Claim7.holds Tryz.pinned (.plain (OpenSpec.ofChange contextUnifiedSpec)) contextUnifiedCard

/-- THE SECOND FORM's CARD OF 'selvagelaw12.ContextPrints'. -/
def contextPrintsUptoCard : Claim7 := { stood := { row := contextPrintsUptoRow, standIns := [], harness := (true, "99da87e55cb582f6b77d687beee72cdc75ac9dc64a5a9ef5013de4629a41fee7"), looks := true }, kinds := [], alts := [], laidByText := true, laidKinds := [.data, .data, .data, .data, .handle, .sentinel, .sentinel, .pinned], laidTests := true, laidLooks := .later }
def ContextPrintsUptoCardSaid : Prop := Claim7.holds Tryz.pinned (.plain (OpenSpec.upto contextPrintsSpec)) contextPrintsUptoCard

/-- THE SECOND FORM's CARD OF 'selvagelaw12.ContextReads'. -/
def contextReadsUptoCard : Claim7 := { stood := { row := contextReadsUptoRow, standIns := [], harness := (true, "99da87e55cb582f6b77d687beee72cdc75ac9dc64a5a9ef5013de4629a41fee7"), looks := true }, kinds := [], alts := [], laidByText := true, laidKinds := [.data, .data, .data, .data, .handle, .sentinel, .sentinel, .pinned], laidTests := true, laidLooks := .later }
def ContextReadsUptoCardSaid : Prop := Claim7.holds Tryz.pinned (.plain (OpenSpec.upto contextReadsSpec)) contextReadsUptoCard

/-- THE SECOND FORM's CARD OF 'selvagelaw12.ContextBack'. -/
def contextBackUptoCard : Claim7 := { stood := { row := contextBackUptoRow, standIns := [], harness := (true, "99da87e55cb582f6b77d687beee72cdc75ac9dc64a5a9ef5013de4629a41fee7"), looks := true }, kinds := [], alts := [], laidByText := true, laidKinds := [.data, .data, .data, .data, .handle, .sentinel, .sentinel, .pinned], laidTests := true, laidLooks := .later }
def ContextBackUptoCardSaid : Prop := Claim7.holds Tryz.pinned (.plain (OpenSpec.upto contextBackSpec)) contextBackUptoCard

/-- THE SECOND FORM's CARD OF 'selvagelaw12.ContextOwn'. -/
def contextOwnUptoCard : Claim7 := { stood := { row := contextOwnUptoRow, standIns := [], harness := (true, "99da87e55cb582f6b77d687beee72cdc75ac9dc64a5a9ef5013de4629a41fee7"), looks := true }, kinds := [], alts := [], laidByText := true, laidKinds := [.data, .data, .data, .data, .handle, .sentinel, .sentinel, .pinned], laidTests := true, laidLooks := .later }
def ContextOwnUptoCardSaid : Prop := Claim7.holds Tryz.pinned (.plain (OpenSpec.upto contextOwnSpec)) contextOwnUptoCard

/-- THE SECOND FORM's CARD OF 'selvagelaw12.ContextUnified'. -/
def contextUnifiedUptoCard : Claim7 := { stood := { row := contextUnifiedUptoRow, standIns := [], harness := (true, "99da87e55cb582f6b77d687beee72cdc75ac9dc64a5a9ef5013de4629a41fee7"), looks := true }, kinds := [], alts := [], laidByText := true, laidKinds := [.data, .data, .data, .data, .handle, .sentinel, .sentinel, .pinned], laidTests := true, laidLooks := .later }
def ContextUnifiedUptoCardSaid : Prop := Claim7.holds Tryz.pinned (.plain (OpenSpec.upto contextUnifiedSpec)) contextUnifiedUptoCard
end Rows
end Go.Proofs.YtebgkjjbbnbnlaaGreatDoor
