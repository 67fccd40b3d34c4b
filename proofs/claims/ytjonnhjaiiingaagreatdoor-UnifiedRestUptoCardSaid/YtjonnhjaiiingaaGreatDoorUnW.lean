/- Package unified's small sample, worked out: 'sure' is true. -/
import Derived.Test.YtjonnhjaiiingaaGreatDoorUnA
import Derived.Test.YtjonnhjaiiingaaGreatDoorUnB
import Derived.Test.YtjonnhjaiiingaaGreatDoorUnP
import Derived.Test.YtjonnhjaiiingaaGreatDoorUnQ
import Derived.Test.YtjonnhjaiiingaaGreatDoorUnS
import Derived.Test.YtjonnhjaiiingaaGreatDoorFnE
import Derived.Test.YtjonnhjaiiingaaGreatDoorFnG
import Derived.Test.YtjonnhjaiiingaaGreatDoorSvW
import Derived.KernelRfl
set_option linter.unusedVariables false
set_option maxRecDepth 100000
namespace Go.Sv
open Go Go.RowKit Go.Proofs
noncomputable def feU : List (FuncId × FE) := [(unified_Print.id, unified_Print.fe), (unified_Parse.id, unified_Parse.fe), (unified_header.id, unified_header.fe), (hunks_Valid.id, hunks_Valid.fe), (unified_follows.id, unified_follows.fe), (unified_span.id, unified_span.fe), (lines_Whole.id, lines_Whole.fe), (lines_Split.id, lines_Split.fe), (unified_reader_read.id, unified_reader_read.fe), (quote_Quote.id, quote_Quote.fe), (hunks_sides.id, hunks_sides.fe), (hunks_place.id, hunks_place.fe), (unified_place.id, unified_place.fe), (unified_reader_name.id, unified_reader_name.fe), (unified_reader_hunk.id, unified_reader_hunk.fe), (quote_Needs.id, quote_Needs.fe), (quote_letter.id, quote_letter.fe), (hunks_line.id, hunks_line.fe), (hunks_side_add.id, hunks_side_add.fe), (quote_Unquote.id, quote_Unquote.fe), (lines_Bare.id, lines_Bare.fe), (unified_first.id, unified_first.fe), (unified_reader_rows.id, unified_reader_rows.fe), (quote_meant.id, quote_meant.fe), (quote_octal.id, quote_octal.fe), (strings_CutPrefix.id, strings_CutPrefix.fe), (stringslite_CutPrefix.id, stringslite_CutPrefix.fe), (stringslite_HasPrefix.id, stringslite_HasPrefix.fe), (unified_ranged.id, unified_ranged.fe), (unified_number.id, unified_number.fe), (selvagelaw11_num.id, selvagelaw11_num.fe), (selvagelaw11_sameHunks.id, selvagelaw11_sameHunks.fe), (unified_Hunk.id, unified_Hunk.fe), (selvagelaw11_sure.id, selvagelaw11_sure.fe)]
theorem feU_ok (w0 : Base) : FEsOK (cx w0) feU := ⟨unified_Print.ok w0, unified_Parse.ok w0, unified_header.ok w0, hunks_Valid.ok w0, unified_follows.ok w0, unified_span.ok w0, lines_Whole.ok w0, lines_Split.ok w0, unified_reader_read.ok w0, quote_Quote.ok w0, hunks_sides.ok w0, hunks_place.ok w0, unified_place.ok w0, unified_reader_name.ok w0, unified_reader_hunk.ok w0, quote_Needs.ok w0, quote_letter.ok w0, hunks_line.ok w0, hunks_side_add.ok w0, quote_Unquote.ok w0, lines_Bare.ok w0, unified_first.ok w0, unified_reader_rows.ok w0, quote_meant.ok w0, quote_octal.ok w0, strings_CutPrefix.ok w0, stringslite_CutPrefix.ok w0, stringslite_HasPrefix.ok w0, unified_ranged.ok w0, unified_number.ok w0, selvagelaw11_num.ok w0, selvagelaw11_sameHunks.ok w0, unified_Hunk.ok w0, selvagelaw11_sure.ok w0, trivial⟩
theorem sure_run (w0 : Base) : rcall (cx w0) (feTab feU) (primOf prims) 1000 20 selvagelaw11_sure.id [] [] = some (.pv (.bool true), []) := by kernel_rfl
theorem sure_spec {w0 : Base} {σ : Store} {R : AV → Store → Prop} (L : Laid w0.w) (hR : R (.pv (.bool true)) σ) : SCalls (cx w0) selvagelaw11_sure.id [] σ R :=
  SCalls.alone L rfl (fun w1 L1 => run_calls L1 (feU_ok w1) (sure_run w1) rfl) rfl hR
end Go.Sv
