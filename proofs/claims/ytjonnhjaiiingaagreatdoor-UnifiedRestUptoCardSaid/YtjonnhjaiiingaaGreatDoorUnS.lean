/- What the code of Go functions comes to over abstract stores, piece by piece; each equation by the kernel. Printed by a program of this session. -/
import Derived.Test.YtjonnhjaiiingaaGreatDoorSvT
import Derived.KernelRfl
set_option linter.unusedVariables false
set_option maxRecDepth 100000
namespace Go.Sv
open Go Go.Proofs
namespace selvagelaw11_sure
def lvs : List (List Nat) := [[], [], [], [], [1], [1], [1, 2, 3], [1, 2, 3], [1, 2, 3, 4, 5, 6, 7, 8, 9], [1, 2, 3, 4, 5, 6, 7, 8, 9], [1, 2, 3, 4, 5, 6, 7, 8, 9, 14, 15], [1, 2, 3, 4, 5, 6, 7, 8, 9, 14, 15], [0]]
def lv : Nat → List Nat := lvOf lvs
noncomputable def code : Code := bodyOf Tryz.f13
noncomputable def fe : FE := ⟨Tryz.f13, code, lv⟩
theorem ok (w0 : Base) : FOK (cx w0) selvagelaw11_sure.id fe := ⟨Tryz.func13, by kernel_rfl, by kernel_rfl⟩
end selvagelaw11_sure
end Go.Sv
