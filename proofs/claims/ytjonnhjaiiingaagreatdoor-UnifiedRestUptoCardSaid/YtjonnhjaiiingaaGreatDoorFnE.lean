/- What the code of Go functions comes to over abstract stores, piece by piece; each equation by the kernel. Printed by a program of this session. -/
import Derived.Test.YtjonnhjaiiingaaGreatDoorSvT
import Derived.KernelRfl
set_option linter.unusedVariables false
set_option maxRecDepth 100000
namespace Go.Sv
open Go Go.Proofs
namespace quote_Needs
def lvs : List (List Nat) := [[0], [0], [0], [0], [0], [0, 6], [], [], [2], [0], [0], [0], [0], [0, 8, 9], [0, 8, 9], [0, 8, 9], [0, 8, 9], [0, 8, 9, 10], [0, 8, 9, 10], [0, 8, 9], [], [0, 8, 9], [0, 8, 9], [0, 8, 9], [0, 8, 9], [0, 3, 8, 9], [0, 3, 8, 9], [0, 4, 8, 9], [0, 4, 8, 9], [0, 8, 9, 28], [], [], [2], [0, 8, 9], [0, 8, 9], [], [], [2]]
def lv : Nat → List Nat := lvOf lvs
noncomputable def code : Code := bodyOf Tryz.f57
noncomputable def fe : FE := ⟨Tryz.f57, code, lv⟩
theorem ok (w0 : Base) : FOK (cx w0) quote_Needs.id fe := ⟨Tryz.func57, by kernel_rfl, by kernel_rfl⟩
end quote_Needs
namespace quote_letter
def lvs : List (List Nat) := [[0], [0], [0], [0], [0], [0, 4], [0, 4], [0, 4], [0, 4], [0, 4], [0, 4, 6], [0, 4], [], [0, 4], [0, 4], [0, 4], [0, 4], [0, 4, 12], [4], [4], [2, 3], [0, 4], [0, 4], [], [], [2, 3]]
def lv : Nat → List Nat := lvOf lvs
noncomputable def code : Code := bodyOf Tryz.f59
noncomputable def fe : FE := ⟨Tryz.f59, code, lv⟩
theorem ok (w0 : Base) : FOK (cx w0) quote_letter.id fe := ⟨Tryz.func59, by kernel_rfl, by kernel_rfl⟩
end quote_letter
namespace quote_Quote
def lvs : List (List Nat) := [[0], [0], [0], [0], [0], [0, 10], [0], [0], [2], [0], [0], [0], [0, 3], [0, 3], [0, 3], [0, 3], [0, 3], [0, 3, 14, 15], [0, 3, 14, 15], [0, 3, 14, 15], [0, 3, 14, 15], [0, 3, 14, 15, 16], [0, 3, 14, 15, 16], [0, 3, 14, 15], [3], [0, 3, 14, 15], [0, 3, 14, 15], [0, 3, 14, 15], [0, 3, 14, 15], [0, 3, 4, 14, 15], [0, 3, 4, 14, 15], [0, 3, 5, 14, 15], [0, 3, 5, 14, 15], [0, 3, 5, 6, 7, 14, 15], [0, 3, 5, 6, 7, 14, 15], [0, 3, 5, 6, 7, 14, 15], [0, 3, 5, 6, 14, 15, 28], [0, 3, 6, 14, 15], [0, 3, 6, 14, 15], [0, 3, 6, 14, 15], [0, 3, 5, 14, 15], [0, 3, 5, 14, 15], [0, 3, 5, 14, 15, 33], [0, 3, 5, 14, 15], [0, 3, 5, 14, 15], [0, 3, 14, 15], [3], [3], [3], [3], [2]]
def lv : Nat → List Nat := lvOf lvs
noncomputable def code : Code := bodyOf Tryz.f32
noncomputable def fe : FE := ⟨Tryz.f32, code, lv⟩
theorem ok (w0 : Base) : FOK (cx w0) quote_Quote.id fe := ⟨Tryz.func32, by kernel_rfl, by kernel_rfl⟩
end quote_Quote
namespace selvageref02_Needs
end selvageref02_Needs
namespace selvageref02_escape
end selvageref02_escape
namespace selvageref02_Quote
end selvageref02_Quote
end Go.Sv
