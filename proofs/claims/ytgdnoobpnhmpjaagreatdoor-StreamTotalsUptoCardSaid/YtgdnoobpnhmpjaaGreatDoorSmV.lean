/- What the code of Go functions comes to over abstract stores, piece by piece; each equation by the kernel. Printed by a program of this session. -/
import Derived.Test.YtgdnoobpnhmpjaaGreatDoorSvT
import Derived.KernelRfl
set_option linter.unusedVariables false
set_option maxRecDepth 100000
namespace Go.Sv
open Go Go.Proofs
namespace strings_makeASCIISet
def lvs : List (List Nat) := [[0], [0], [0, 2], [0, 2], [0, 2], [0, 2, 4], [0, 2, 4], [0, 2, 4], [0, 2, 4], [0, 2, 4], [0, 2, 4, 9], [0, 2, 4], [2], [0, 2, 4], [0, 2, 4], [0, 2, 4], [0, 2, 4], [0, 2, 4, 5], [0, 2, 4, 5], [0, 2, 4, 5], [0, 2, 4, 5, 16], [2], [2], [2, 3], [0, 2, 4, 5], [0, 2, 4, 5], [0, 2, 4], [2], [2], [2, 3]]
def lv : Nat → List Nat := lvOf lvs
noncomputable def code : Code := bodyOf Tryz.f110
noncomputable def fe : FE := ⟨Tryz.f110, code, lv⟩
theorem ok (w0 : Base) : FOK (cx w0) strings_makeASCIISet.id fe := ⟨Tryz.func110, by kernel_rfl, by kernel_rfl⟩
end strings_makeASCIISet
namespace strings_asciiSet_contains
def lvs : List (List Nat) := [[0, 1], [0, 1], [0, 1], [0, 1], [4]]
def lv : Nat → List Nat := lvOf lvs
noncomputable def code : Code := bodyOf Tryz.f147
noncomputable def fe : FE := ⟨Tryz.f147, code, lv⟩
theorem ok (w0 : Base) : FOK (cx w0) strings_asciiSet_contains.id fe := ⟨Tryz.func147, by kernel_rfl, by kernel_rfl⟩
end strings_asciiSet_contains
end Go.Sv
