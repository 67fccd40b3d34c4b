/- What the code of Go functions comes to over abstract stores, piece by piece; each equation by the kernel. Printed by a program of this session. -/
import Derived.Test.YthkedonibhajbaaGreatDoorSvT
import Derived.KernelRfl
set_option linter.unusedVariables false
set_option maxRecDepth 100000
namespace Go.Sv
open Go Go.Proofs
/-! ### selvage/selvagelaw16.works -/
def selvagelaw16_works.lvs : List (List Nat) := [[], [], [], [], [1, 2], [1, 2], [1, 2, 3, 4], [1, 2, 3, 4], [1, 2, 3, 4, 6], [1, 2, 3, 4, 6], [0]]
def selvagelaw16_works.lv : Nat → List Nat := lvOf selvagelaw16_works.lvs
noncomputable def selvagelaw16_works.code : Code := bodyOf Tryz.f5
noncomputable def selvagelaw16_works.fe : FE := ⟨Tryz.f5, selvagelaw16_works.code, selvagelaw16_works.lv⟩
theorem selvagelaw16_works.ok (w0 : Base) : FOK (cx w0) selvagelaw16_works.id selvagelaw16_works.fe := ⟨Tryz.func5, by kernel_rfl, by kernel_rfl⟩
end Go.Sv
