/- Package stat's small sample, worked out: 'works' is true. -/
import Derived.Test.YthkedonibhajbaaGreatDoorFnA
import Derived.Test.YthkedonibhajbaaGreatDoorFnB
import Derived.Test.YthkedonibhajbaaGreatDoorFnD
import Derived.Test.YthkedonibhajbaaGreatDoorFnE
import Derived.Test.YthkedonibhajbaaGreatDoorFnF
import Derived.Test.YthkedonibhajbaaGreatDoorSvW
import Derived.KernelRfl
set_option linter.unusedVariables false
set_option maxRecDepth 100000
namespace Go.Sv
open Go Go.RowKit Go.Proofs
noncomputable def feW : List (FuncId × FE) := [(stat_fits.id, stat_fits.fe), (stat_Bar_1.id, stat_Bar_1.fe), (stat_Bar.id, stat_Bar.fe), (stat_sums.id, stat_sums.fe), (stat_some.id, stat_some.fe), (stat_Total.id, stat_Total.fe), (quote_Needs.id, quote_Needs.fe), (quote_letter.id, quote_letter.fe), (quote_Quote.id, quote_Quote.fe), (stat_Table.id, stat_Table.fe), (selvagelaw16_num.id, selvagelaw16_num.fe), (selvagelaw16_works.id, selvagelaw16_works.fe)]
theorem feW_ok (w0 : Base) : FEsOK (cx w0) feW := ⟨stat_fits.ok w0, stat_Bar_1.ok w0, stat_Bar.ok w0, stat_sums.ok w0, stat_some.ok w0, stat_Total.ok w0, quote_Needs.ok w0, quote_letter.ok w0, quote_Quote.ok w0, stat_Table.ok w0, selvagelaw16_num.ok w0, selvagelaw16_works.ok w0, trivial⟩
theorem works_run (w0 : Base) : rcall (cx w0) (feTab feW) (primOf prims) 1000 20 selvagelaw16_works.id [] [] = some (.pv (.bool true), []) := by kernel_rfl
theorem works_spec {w0 : Base} {σ : Store} {R : AV → Store → Prop} (L : Laid w0.w) (hR : R (.pv (.bool true)) σ) : SCalls (cx w0) selvagelaw16_works.id [] σ R :=
  SCalls.alone L rfl (fun w1 L1 => run_calls L1 (feW_ok w1) (works_run w1) rfl) rfl hR
end Go.Sv
