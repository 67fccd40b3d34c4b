/-
  DERIVED. GIVEN WITH THE SEED: THE CARDS: each row of YtimmjplgogpglaaDoorRows.lean that lists a variable, with what it lists TIED to the program's text (the seventh form; the later family's looks); each row that meets fmt, with fmt's text TOLD by the authors' own Lean function (tested against real Go, not proved from fmt's source: count such statements apart). THE CARD IS WHAT COUNTS. Prove the row's statement (the work); the ties are given (YtimmjplgogpglaaDoorTie.lean); close each card by the builder's one call (the guide's Derived/Test/ToyasCard.lean, 'card_holds'). Laid BY PROGRAM, IN A SANDBOX (cutbox-door.mjs). By AI agents, Wed Nov 11 2026. No macro, syntax, notation, axiom, sorry.
-/
import Derived.Test.YtimmjplgogpglaaDoorRows
import GoSem.ClaimSeven
namespace Go.Proofs.YtimmjplgogpglaaDoor
namespace Rows

/-- THE TIED CARD OF 'selvagelaw25.FilediffSimilar'. -/
def filediffSimilarCard : Claim7 := { stood := { row := filediffSimilarRow, standIns := [], harness := (true, "1cc67573636ab21b5f4d35c9cde227f6d78ca7be747f768cd7af08e40db33eb0"), looks := true }, kinds := [], alts := [], laidByText := true, laidKinds := [.data, .handle, .pinned], laidTests := true, laidLooks := .later }
def FilediffSimilarCardSaid : Prop := Claim7.holds Tryd.pinned (.plain (OpenSpec.ofChange filediffSimilarSpec)) filediffSimilarCard

/-- THE TIED CARD OF 'selvagelaw25.FilediffRenames'. -/
def filediffRenamesCard : Claim7 := { stood := { row := filediffRenamesRow, standIns := [], harness := (true, "1cc67573636ab21b5f4d35c9cde227f6d78ca7be747f768cd7af08e40db33eb0"), looks := true }, kinds := [], alts := [], laidByText := true, laidKinds := [.data, .handle, .pinned], laidTests := true, laidLooks := .later }
def FilediffRenamesCardSaid : Prop := Claim7.holds Tryd.pinned (.plain (OpenSpec.ofChange filediffRenamesSpec)) filediffRenamesCard

/-- THE SECOND FORM's CARD OF 'selvagelaw25.FilediffSimilar'. -/
def filediffSimilarUptoCard : Claim7 := { stood := { row := filediffSimilarUptoRow, standIns := [], harness := (true, "1cc67573636ab21b5f4d35c9cde227f6d78ca7be747f768cd7af08e40db33eb0"), looks := true }, kinds := [], alts := [], laidByText := true, laidKinds := [.data, .handle, .pinned], laidTests := true, laidLooks := .later }
def FilediffSimilarUptoCardSaid : Prop := Claim7.holds Tryd.pinned (.plain (OpenSpec.upto filediffSimilarSpec)) filediffSimilarUptoCard

/-- THE SECOND FORM's CARD OF 'selvagelaw25.FilediffRenames'. -/
def filediffRenamesUptoCard : Claim7 := { stood := { row := filediffRenamesUptoRow, standIns := [], harness := (true, "1cc67573636ab21b5f4d35c9cde227f6d78ca7be747f768cd7af08e40db33eb0"), looks := true }, kinds := [], alts := [], laidByText := true, laidKinds := [.data, .handle, .pinned], laidTests := true, laidLooks := .later }
def FilediffRenamesUptoCardSaid : Prop := Claim7.holds Tryd.pinned (.plain (OpenSpec.upto filediffRenamesSpec)) filediffRenamesUptoCard
end Rows
end Go.Proofs.YtimmjplgogpglaaDoor
