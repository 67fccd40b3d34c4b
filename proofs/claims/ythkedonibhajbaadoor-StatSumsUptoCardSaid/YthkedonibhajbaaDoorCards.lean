/-
  DERIVED. GIVEN WITH THE SEED: THE CARDS: each row of YthkedonibhajbaaDoorRows.lean that lists a variable, with what it lists TIED to the program's text (the seventh form; the later family's looks); each row that meets fmt, with fmt's text TOLD by the authors' own Lean function (tested against real Go, not proved from fmt's source: count such statements apart). THE CARD IS WHAT COUNTS. Prove the row's statement (the work); the ties are given (YthkedonibhajbaaDoorTie.lean); close each card by the builder's one call (the guide's Derived/Test/ToyasCard.lean, 'card_holds'). Laid BY PROGRAM, IN A SANDBOX (cutbox-door.mjs). By AI agents, Wed Nov 11 2026. No macro, syntax, notation, axiom, sorry.
-/
import Derived.Test.YthkedonibhajbaaDoorRows
import GoSem.ClaimSeven
namespace Go.Proofs.YthkedonibhajbaaDoor
namespace Rows

/-- THE TIED CARD OF 'selvagelaw16.StatBars'. -/
def statBarsCard : Claim7 := { stood := { row := statBarsRow, standIns := [], harness := (true, "621b21b5d5f8c9bfd2b083aea2e8a711a7362be6cdc738328fffd4c7c51fadde"), looks := true }, kinds := [], alts := [], laidByText := true, laidKinds := [.data, .data, .data, .handle], laidTests := true, laidLooks := .later }
def StatBarsCardSaid : Prop := Claim7.holds Tryd.pinned (.plain (OpenSpec.ofChange statBarsSpec)) statBarsCard

/-- THE TIED CARD OF 'selvagelaw16.StatTables'. -/
def statTablesCard : Claim7 := { stood := { row := statTablesRow, standIns := [], harness := (true, "621b21b5d5f8c9bfd2b083aea2e8a711a7362be6cdc738328fffd4c7c51fadde"), looks := true }, kinds := [], alts := [], laidByText := true, laidKinds := [.data, .data, .data, .handle], laidTests := true, laidLooks := .later }
def StatTablesCardSaid : Prop := Claim7.holds Tryd.pinned (.plain (OpenSpec.ofChange statTablesSpec)) statTablesCard

/-- THE TIED CARD OF 'selvagelaw16.StatShows'. -/
def statShowsCard : Claim7 := { stood := { row := statShowsRow, standIns := [], harness := (true, "621b21b5d5f8c9bfd2b083aea2e8a711a7362be6cdc738328fffd4c7c51fadde"), looks := true }, kinds := [], alts := [], laidByText := true, laidKinds := [.data, .data, .data, .handle], laidTests := true, laidLooks := .later }
def StatShowsCardSaid : Prop := Claim7.holds Tryd.pinned (.plain (OpenSpec.ofChange statShowsSpec)) statShowsCard

/-- THE TIED CARD OF 'selvagelaw16.StatSums'. -/
def statSumsCard : Claim7 := { stood := { row := statSumsRow, standIns := [], harness := (true, "621b21b5d5f8c9bfd2b083aea2e8a711a7362be6cdc738328fffd4c7c51fadde"), looks := true }, kinds := [], alts := [], laidByText := true, laidKinds := [.data, .data, .data, .handle], laidTests := true, laidLooks := .later }
def StatSumsCardSaid : Prop := Claim7.holds Tryd.pinned (.plain (OpenSpec.ofChange statSumsSpec)) statSumsCard

/-- THE TIED CARD OF 'selvagelaw16.StatCounts'. -/
def statCountsCard : Claim7 := { stood := { row := statCountsRow, standIns := [], harness := (true, "621b21b5d5f8c9bfd2b083aea2e8a711a7362be6cdc738328fffd4c7c51fadde"), looks := true }, kinds := [], alts := [], laidByText := true, laidKinds := [.data, .data, .data, .handle], laidTests := true, laidLooks := .later }
def StatCountsCardSaid : Prop := Claim7.holds Tryd.pinned (.plain (OpenSpec.ofChange statCountsSpec)) statCountsCard

/-- THE SECOND FORM's CARD OF 'selvagelaw16.StatBars'. -/
def statBarsUptoCard : Claim7 := { stood := { row := statBarsUptoRow, standIns := [], harness := (true, "621b21b5d5f8c9bfd2b083aea2e8a711a7362be6cdc738328fffd4c7c51fadde"), looks := true }, kinds := [], alts := [], laidByText := true, laidKinds := [.data, .data, .data, .handle], laidTests := true, laidLooks := .later }
def StatBarsUptoCardSaid : Prop := Claim7.holds Tryd.pinned (.plain (OpenSpec.upto statBarsSpec)) statBarsUptoCard

/-- THE SECOND FORM's CARD OF 'selvagelaw16.StatTables'. -/
def statTablesUptoCard : Claim7 := { stood := { row := statTablesUptoRow, standIns := [], harness := (true, "621b21b5d5f8c9bfd2b083aea2e8a711a7362be6cdc738328fffd4c7c51fadde"), looks := true }, kinds := [], alts := [], laidByText := true, laidKinds := [.data, .data, .data, .handle], laidTests := true, laidLooks := .later }
def StatTablesUptoCardSaid : Prop := Claim7.holds Tryd.pinned (.plain (OpenSpec.upto statTablesSpec)) statTablesUptoCard

/-- THE SECOND FORM's CARD OF 'selvagelaw16.StatShows'. -/
def statShowsUptoCard : Claim7 := { stood := { row := statShowsUptoRow, standIns := [], harness := (true, "621b21b5d5f8c9bfd2b083aea2e8a711a7362be6cdc738328fffd4c7c51fadde"), looks := true }, kinds := [], alts := [], laidByText := true, laidKinds := [.data, .data, .data, .handle], laidTests := true, laidLooks := .later }
def StatShowsUptoCardSaid : Prop := Claim7.holds Tryd.pinned (.plain (OpenSpec.upto statShowsSpec)) statShowsUptoCard

/-- THE SECOND FORM's CARD OF 'selvagelaw16.StatSums'. -/
def statSumsUptoCard : Claim7 := { stood := { row := statSumsUptoRow, standIns := [], harness := (true, "621b21b5d5f8c9bfd2b083aea2e8a711a7362be6cdc738328fffd4c7c51fadde"), looks := true }, kinds := [], alts := [], laidByText := true, laidKinds := [.data, .data, .data, .handle], laidTests := true, laidLooks := .later }
def StatSumsUptoCardSaid : Prop := Claim7.holds Tryd.pinned (.plain (OpenSpec.upto statSumsSpec)) statSumsUptoCard

/-- THE SECOND FORM's CARD OF 'selvagelaw16.StatCounts'. -/
def statCountsUptoCard : Claim7 := { stood := { row := statCountsUptoRow, standIns := [], harness := (true, "621b21b5d5f8c9bfd2b083aea2e8a711a7362be6cdc738328fffd4c7c51fadde"), looks := true }, kinds := [], alts := [], laidByText := true, laidKinds := [.data, .data, .data, .handle], laidTests := true, laidLooks := .later }
def StatCountsUptoCardSaid : Prop := Claim7.holds Tryd.pinned (.plain (OpenSpec.upto statCountsSpec)) statCountsUptoCard
end Rows
end Go.Proofs.YthkedonibhajbaaDoor
