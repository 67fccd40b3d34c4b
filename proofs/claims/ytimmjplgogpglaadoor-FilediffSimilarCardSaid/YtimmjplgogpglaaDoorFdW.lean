/- Package filediff's small samples, worked out: 'moved' is true. -/
import Derived.Test.YtimmjplgogpglaaDoorFdA
import Derived.Test.YtimmjplgogpglaaDoorFdB
import Derived.Test.YtimmjplgogpglaaDoorFdC
import Derived.Test.YtimmjplgogpglaaDoorFdE
import Derived.Test.YtimmjplgogpglaaDoorFdF
import Derived.Test.YtimmjplgogpglaaDoorSvRs
import Derived.KernelRfl
set_option linter.unusedVariables false
set_option maxRecDepth 100000
namespace Go.Sv
open Go Go.RowKit Go.Proofs
noncomputable def feM : List (FuncId × FE) := [(selvagelaw25_moved.id, selvagelaw25_moved.fe), (filediff_Similarity.id, filediff_Similarity.fe), (filediff_Renames.id, filediff_Renames.fe), (filediff_file.id, filediff_file.fe), (intern_Ids.id, intern_Ids.fe), (intern_Ids_1.id, intern_Ids_1.fe), (intern_Key.id, intern_Key.fe), (lines_Split.id, lines_Split.fe), (lines_Bare.id, lines_Bare.fe), (myers_Common.id, myers_Common.fe), (myers_Distance.id, myers_Distance.fe), (myers_Diff.id, myers_Diff.fe), (myers_mark.id, myers_mark.fe), (myers_box_trim.id, myers_box_trim.fe), (myers_snake.id, myers_snake.fe), (myers_wrap.id, myers_wrap.fe), (selvagelaw25_num.id, selvagelaw25_num.fe)]
theorem feM_ok (w0 : Base) : FEsOK (cx w0) feM := ⟨selvagelaw25_moved.ok w0, filediff_Similarity.ok w0, filediff_Renames.ok w0, filediff_file.ok w0, intern_Ids.ok w0, intern_Ids_1.ok w0, intern_Key.ok w0, lines_Split.ok w0, lines_Bare.ok w0, myers_Common.ok w0, myers_Distance.ok w0, myers_Diff.ok w0, myers_mark.ok w0, myers_box_trim.ok w0, myers_snake.ok w0, myers_wrap.ok w0, selvagelaw25_num.ok w0, trivial⟩
def sealM (f : FuncId) : Bool := Nat.beq f intern_Ids.id
theorem moved_run (w0 : Base) : rcallS sealM (cx w0) (feTab feM) (primOf prims) 1000 30 selvagelaw25_moved.id [] [] = some (.pv (.bool true), []) := by kernel_rfl
theorem moved_spec {w0 : Base} {σ : Store} {R : AV → Store → Prop} (L : Laid w0.w) (hR : R (.pv (.bool true)) σ) : SCalls (cx w0) selvagelaw25_moved.id [] σ R :=
  SCalls.alone L rfl (fun w1 L1 => run_callsS L1 (feM_ok w1) (moved_run w1) rfl) rfl hR
end Go.Sv
