/- What the code of Go functions comes to over abstract stores, piece by piece; each equation by the kernel. Printed by a program of this session. -/
import Derived.Test.YtebgkjjbbnbnlaaGreatDoorSvT
import Derived.KernelRfl
set_option linter.unusedVariables false
set_option maxRecDepth 100000
namespace Go.Sv
open Go Go.Proofs
namespace context_Parse
def lvs : List (List Nat) := [[0], [0], [0, 2, 3], [0, 2, 3], [0, 2, 3, 8], [0, 2, 3, 8], [0, 2, 3, 8], [0, 2, 3, 8, 29], [2, 3, 8], [2, 3, 8], [2, 3, 4, 5, 6, 7], [0, 2, 3, 8], [0, 2, 3, 8], [0, 2, 3, 8], [0, 2, 3, 8, 9], [0, 2, 3, 8, 9], [0, 2, 3, 8, 9], [0, 2, 3, 8, 9, 10], [0, 2, 3, 8, 9, 10], [0, 2, 3, 8, 9, 10, 53], [0, 2, 3, 8, 9, 10], [0, 2, 3, 8, 9], [0, 2, 3, 8, 9], [0, 2, 3, 8, 9], [0, 2, 3, 8, 11], [0, 2, 3, 8, 11], [0, 2, 3, 8, 11, 12, 13], [0, 2, 3, 8, 11, 12, 13], [0, 2, 3, 8, 11, 12, 13], [0, 2, 3, 8, 11, 12, 70], [2, 3, 8], [2, 3, 8], [2, 3, 4, 5, 6, 7], [0, 2, 3, 8, 11, 12], [0, 2, 3, 8, 11, 12], [0, 2, 3, 8, 11, 12], [0, 2, 3, 8, 11, 12, 13, 14], [0, 2, 3, 8, 11, 12, 13, 14], [0, 2, 3, 8, 11, 12, 13, 14], [0, 2, 3, 8, 11, 12, 14, 86], [2, 3, 8], [2, 3, 8], [2, 3, 4, 5, 6, 7], [0, 2, 3, 8, 11, 12, 14], [0, 2, 3, 8, 11, 12, 14], [0, 2, 3, 8, 11, 12, 14], [0, 2, 3, 8, 11, 12, 14, 15], [0, 2, 3, 8, 11, 12, 14, 15], [0, 2, 3, 8, 11, 12, 14, 15], [0, 2, 3, 8, 11, 12, 14, 15], [0, 2, 3, 8, 11, 12, 14, 15], [0, 2, 3, 8, 11, 12, 14, 15], [0, 2, 3, 8, 11, 12, 14, 15, 16], [0, 2, 3, 8, 11, 12, 14, 15, 16], [0, 2, 3, 8, 11, 12, 14, 15, 18, 19], [0, 2, 3, 8, 11, 12, 14, 15, 18, 19], [0, 2, 3, 8, 11, 12, 14, 15, 18, 19], [0, 2, 3, 8, 11, 12, 14, 15, 116], [0, 2, 3, 8, 11, 12, 14, 15], [0, 2, 3, 8, 11, 12, 14, 15], [0, 2, 3, 8, 11, 12, 14, 15], [0, 2, 3, 8, 11, 12, 14, 15], [0, 2, 3, 8, 11, 12, 14, 15, 20, 21, 22], [0, 2, 3, 8, 11, 12, 14, 15, 20, 21, 22], [0, 2, 3, 8, 11, 12, 14, 15, 20, 21, 22], [0, 2, 3, 8, 11, 12, 14, 15, 20, 21, 22, 124], [2, 3, 8, 21, 22], [2, 3, 8, 21, 22], [2, 3, 4, 5, 6, 7], [0, 2, 3, 8, 11, 12, 14, 15, 20, 21], [0, 2, 3, 8, 11, 12, 14, 15, 20, 21], [0, 2, 3, 8, 11, 12, 14, 15, 20, 21], [0, 2, 3, 8, 11, 12, 14, 15, 20, 21], [0, 2, 3, 8, 11, 12, 14, 15, 20, 21, 23], [0, 2, 3, 8, 11, 12, 14, 15, 20, 21, 23], [0, 2, 3, 8, 11, 12, 14, 15, 20, 21, 149], [2, 3, 8, 21], [2, 3, 8, 21], [2, 3, 4, 5, 6, 7], [0, 2, 3, 8, 11, 12, 14, 15, 20], [0, 2, 3, 8, 11, 12, 14, 15, 20], [0, 2, 3, 8, 11, 12, 14, 15], [0, 2, 3, 8, 11, 12, 14, 15], [0, 2, 3, 8, 11, 12, 14, 15], [0, 2, 3, 8, 11, 12, 14, 15, 167], [2, 3, 8, 11], [2, 3, 8, 11], [2, 3, 4, 5, 6, 7], [0, 2, 3, 11, 12, 14, 15], [0, 2, 3, 11, 12, 14, 15], [0, 2, 3, 11, 12, 14, 15], [0, 2, 3, 11, 12, 14, 15, 24], [0, 2, 3, 11, 12, 14, 15, 24], [0, 2, 3, 11, 12, 14, 15, 24], [0, 2, 3, 12, 14, 15, 24, 190, 191, 192], [0, 2, 3, 12, 14, 15, 24, 190, 191, 192], [0, 2, 3, 12, 14, 15, 24, 190, 191, 192], [0, 2, 3, 12, 14, 15, 24, 190, 191, 192], [0, 2, 3, 12, 14, 15, 24, 190, 191, 192, 193], [0, 2, 3, 12, 14, 15, 24, 190, 191, 192, 193], [0, 2, 3, 12, 14, 15, 24, 190, 191, 192], [0, 2, 3, 12, 14, 15, 24], [0, 2, 3, 12, 14, 15, 24, 190, 191, 192], [0, 2, 3, 12, 14, 15, 24, 190, 191, 192], [0, 2, 3, 12, 14, 15, 24, 190, 191, 192], [0, 2, 3, 12, 14, 15, 24, 190, 191, 192], [0, 2, 3, 12, 14, 15, 24, 26, 190, 191, 192], [0, 2, 3, 12, 14, 15, 24, 190, 191, 192], [0, 2, 3, 12, 14, 15, 24], [0, 2, 3, 12, 14, 15, 24], [2, 3, 4, 5, 6, 7]]
def lv : Nat → List Nat := lvOf lvs
noncomputable def code : Code := bodyOf Tryz.f16
noncomputable def fe : FE := ⟨Tryz.f16, code, lv⟩
theorem ok (w0 : Base) : FOK (cx w0) context_Parse.id fe := ⟨Tryz.func16, by kernel_rfl, by kernel_rfl⟩
end context_Parse
namespace context_Parse_1
def lvs : List (List Nat) := [[0, 1], [0, 1], [0, 1, 4, 5], [0, 1, 4, 5], [4, 5, 6, 7, 8, 9]]
def lv : Nat → List Nat := lvOf lvs
noncomputable def code : Code := bodyOf Tryz.f36
noncomputable def fe : FE := ⟨Tryz.f36, code, lv⟩
theorem ok (w0 : Base) : FOK (cx w0) context_Parse_1.id fe := ⟨Tryz.func36, by kernel_rfl, by kernel_rfl⟩
end context_Parse_1
namespace context_reader_now
def lvs : List (List Nat) := [[0], [0], [0], [0], [0], [0, 13], [], [], [2, 3], [0], [0], [0], [2, 3]]
def lv : Nat → List Nat := lvOf lvs
noncomputable def code : Code := bodyOf Tryz.f39
noncomputable def fe : FE := ⟨Tryz.f39, code, lv⟩
theorem ok (w0 : Base) : FOK (cx w0) context_reader_now.id fe := ⟨Tryz.func39, by kernel_rfl, by kernel_rfl⟩
end context_reader_now
namespace context_reader_name
def lvs : List (List Nat) := [[0, 1], [0, 1], [0, 1, 4], [0, 1, 4], [0, 1, 4, 6], [0, 1, 4, 6], [0, 4, 6, 8], [0, 4, 6, 8], [0, 4, 6, 8], [0, 4, 6, 25], [4], [4], [4, 5], [0, 4, 6], [0, 4, 6], [0, 4, 6], [0, 4, 9, 10, 11], [0, 4, 9, 10, 11], [0, 4, 9, 10, 11], [0, 4, 9, 10, 34], [4], [4], [4, 5], [0, 4, 9, 10], [0, 4, 9, 10], [0, 4, 9, 10], [0, 4, 8, 9, 10, 12], [0, 4, 8, 9, 10, 12], [0, 4, 8, 9, 10, 12], [0, 4, 9, 12, 46], [4], [4], [4, 5], [0, 4, 9, 12], [0, 4, 9, 12], [0, 4, 9, 12], [4, 9, 12], [4, 9, 12], [4, 5]]
def lv : Nat → List Nat := lvOf lvs
noncomputable def code : Code := bodyOf Tryz.f38
noncomputable def fe : FE := ⟨Tryz.f38, code, lv⟩
theorem ok (w0 : Base) : FOK (cx w0) context_reader_name.id fe := ⟨Tryz.func38, by kernel_rfl, by kernel_rfl⟩
end context_reader_name
namespace context_number
def lvs : List (List Nat) := [[0], [0], [0], [0], [0], [0, 12], [], [], [2, 3], [0], [0], [0], [0], [0], [0], [0, 17], [], [], [2, 3], [0], [0], [0], [4], [4], [2, 3]]
def lv : Nat → List Nat := lvOf lvs
noncomputable def code : Code := bodyOf Tryz.f124
noncomputable def fe : FE := ⟨Tryz.f124, code, lv⟩
theorem ok (w0 : Base) : FOK (cx w0) context_number.id fe := ⟨Tryz.func124, by kernel_rfl, by kernel_rfl⟩
end context_number
namespace context_ranged_takes
def lvs : List (List Nat) := [[0, 1], [0, 1], [1, 2], [1, 2], [4]]
def lv : Nat → List Nat := lvOf lvs
noncomputable def code : Code := bodyOf Tryz.f81
noncomputable def fe : FE := ⟨Tryz.f81, code, lv⟩
theorem ok (w0 : Base) : FOK (cx w0) context_ranged_takes.id fe := ⟨Tryz.func81, by kernel_rfl, by kernel_rfl⟩
end context_ranged_takes
namespace context_reader_span
def lvs : List (List Nat) := [[0, 1, 2], [0, 1, 2], [0, 1, 2, 6], [0, 1, 2, 6], [0, 1, 2, 6, 8], [0, 1, 2, 6, 8], [0, 2, 6, 8, 10], [0, 2, 6, 8, 10], [0, 2, 6, 8, 10], [0, 2, 6, 8, 10, 29], [0, 2, 6, 8], [0, 6, 8, 10], [0, 6, 8, 10], [0, 6, 8, 10], [0, 6, 10, 11, 12, 13], [0, 6, 10, 11, 12, 13], [0, 6, 10, 11, 12, 13], [0, 6, 10, 11, 12, 13, 43], [0, 6, 10, 11, 13], [0, 6, 10, 11, 12, 13], [0, 6, 10, 11, 12, 13], [0, 6, 10, 11, 12, 13], [0, 6, 10, 12, 13, 14, 15], [0, 6, 10, 12, 13, 14, 15], [0, 6, 10, 13, 14, 15, 16, 17], [0, 6, 10, 13, 14, 15, 16, 17], [0, 6, 10, 13, 14, 15, 16, 17], [0, 6, 13, 14, 16, 69], [6], [6], [6, 7], [0, 6, 13, 14, 16], [0, 6, 13, 14, 16], [0, 6, 13, 14, 16], [6, 13, 14, 16], [6, 13, 14, 16], [6, 7]]
def lv : Nat → List Nat := lvOf lvs
noncomputable def code : Code := bodyOf Tryz.f78
noncomputable def fe : FE := ⟨Tryz.f78, code, lv⟩
theorem ok (w0 : Base) : FOK (cx w0) context_reader_span.id fe := ⟨Tryz.func78, by kernel_rfl, by kernel_rfl⟩
end context_reader_span
namespace context_reader_part
def lvs : List (List Nat) := [[0, 1, 2], [0, 1, 2], [0, 1, 2], [0, 1, 2], [0, 1, 2, 7], [0, 1, 2, 7], [0, 1, 2, 7, 8], [0, 1, 2, 7, 8], [0, 1, 2, 7, 8], [0, 1, 2, 7, 8], [0, 1, 2, 7, 8], [0, 1, 2, 7, 8, 9, 10], [0, 1, 2, 7, 8, 9, 10], [0, 1, 2, 7, 8, 9, 10], [0, 1, 2, 7, 8, 9, 10], [0, 1, 2, 7, 8, 9, 10, 18], [0, 1, 2, 7, 8], [0, 1, 2, 7, 8], [0, 1, 2, 7, 8], [0, 1, 2, 7, 29], [7], [7], [6], [0, 1, 2, 7], [0, 1, 2, 7], [0, 1, 2, 7], [0, 1, 2, 7, 11], [0, 1, 2, 7, 11], [0, 1, 2, 7], [0, 1, 2, 7, 9, 10], [0, 1, 2, 7, 9, 10], [0, 1, 2, 7, 9, 44], [0, 1, 2, 7, 9], [0, 1, 2, 7, 9], [0, 1, 2, 7], [7], [7], [6], [0, 1, 2, 7, 8]]
def lv : Nat → List Nat := lvOf lvs
noncomputable def code : Code := bodyOf Tryz.f79
noncomputable def fe : FE := ⟨Tryz.f79, code, lv⟩
theorem ok (w0 : Base) : FOK (cx w0) context_reader_part.id fe := ⟨Tryz.func79, by kernel_rfl, by kernel_rfl⟩
end context_reader_part
namespace context_contexts
def lvs : List (List Nat) := [[0], [0], [0], [0], [0, 3], [0, 3], [0, 3], [3, 6, 7, 8], [3, 6, 7, 8], [3, 6, 7, 8], [3, 6, 7, 8], [3, 6, 7, 8, 9], [3, 6, 7, 8, 9], [3, 6, 7, 8], [3], [3, 6, 7, 8], [3, 6, 7, 8], [3, 6, 7, 8], [3, 6, 7, 8], [3, 5, 6, 7, 8], [3, 5, 6, 7, 8], [3, 5, 6, 7, 8, 14], [3, 5, 6, 7, 8], [3, 6, 7, 8], [3, 6, 7, 8], [3], [3], [2]]
def lv : Nat → List Nat := lvOf lvs
noncomputable def code : Code := bodyOf Tryz.f125
noncomputable def fe : FE := ⟨Tryz.f125, code, lv⟩
theorem ok (w0 : Base) : FOK (cx w0) context_contexts.id fe := ⟨Tryz.func125, by kernel_rfl, by kernel_rfl⟩
end context_contexts
namespace context_taken
def lvs : List (List Nat) := [[0], [0], [0], [0], [0, 4], [0, 4], [0, 4], [0, 4], [0, 4], [0, 4], [0, 4, 16], [0, 4], [0, 4], [0, 4], [0, 4], [0, 4], [0, 4], [2, 3]]
def lv : Nat → List Nat := lvOf lvs
noncomputable def code : Code := bodyOf Tryz.f126
noncomputable def fe : FE := ⟨Tryz.f126, code, lv⟩
theorem ok (w0 : Base) : FOK (cx w0) context_taken.id fe := ⟨Tryz.func126, by kernel_rfl, by kernel_rfl⟩
end context_taken
namespace context_only
def lvs : List (List Nat) := [[0, 1], [0, 1], [0, 1], [0, 1], [0, 1], [0, 1, 7, 8, 9], [0, 1, 7, 8, 9], [0, 1, 7, 8, 9], [0, 1, 7, 8, 9], [0, 1, 7, 8, 9, 10], [0, 1, 7, 8, 9, 10], [0, 1, 7, 8, 9], [0], [0, 1, 7, 8, 9], [0, 1, 7, 8, 9], [0, 1, 7, 8, 9], [0, 1, 7, 8, 9], [0, 1, 6, 7, 8, 9], [0, 1, 6, 7, 8, 9], [0, 1, 7, 8, 9, 16], [], [], [4], [0, 1, 7, 8, 9], [0, 1, 7, 8, 9], [0], [0], [4]]
def lv : Nat → List Nat := lvOf lvs
noncomputable def code : Code := bodyOf Tryz.f127
noncomputable def fe : FE := ⟨Tryz.f127, code, lv⟩
theorem ok (w0 : Base) : FOK (cx w0) context_only.id fe := ⟨Tryz.func127, by kernel_rfl, by kernel_rfl⟩
end context_only
namespace context_together
def lvs : List (List Nat) := [[0, 1], [0, 1], [0, 1], [0, 1], [0, 1], [0, 1], [0, 1, 13], [], [], [4, 5], [0, 1], [0, 1], [0, 1, 22], [1], [0, 1], [0, 1], [0, 1, 28], [0], [0, 1], [0, 1], [0, 1], [0, 1, 6], [0, 1, 6], [0, 1, 6], [0, 1, 6], [0, 1, 6], [0, 1, 6], [0, 1, 6], [0, 1, 6, 7], [0, 1, 6, 7], [0, 1, 6, 7, 8], [0, 1, 6, 7, 8], [0, 1, 6, 7, 8], [0, 1, 6, 7, 8], [0, 1, 6, 7, 8, 44], [0, 1, 6, 7, 8], [0, 1, 6, 7, 8], [0, 1, 6, 7, 8], [0, 1, 6, 7, 8], [0, 1, 6, 7, 8, 53], [0, 1, 6, 7, 8, 53], [0, 1, 6, 7, 8], [0, 1, 6, 7, 8], [0, 1, 6, 7, 8, 53], [0, 1, 6, 7, 8, 53], [0, 1, 6, 7, 8], [0, 1, 6, 7, 8, 53], [0, 1, 6, 7, 8], [], [], [4, 5], [0, 1, 6, 7, 8], [0, 1, 6, 7, 8], [0, 1, 6, 7, 8], [0, 1, 6, 8, 74, 75, 76], [0, 1, 6, 8, 74, 75, 76], [0, 1, 6, 8, 74, 75, 76], [0, 1, 6, 8, 74, 75, 76], [0, 1, 6, 8, 74, 75, 76, 77], [0, 1, 6, 8, 74, 75, 76, 77], [0, 1, 6, 8, 74, 75, 76], [0, 1, 6, 8], [0, 1, 6, 8, 74, 75, 76], [0, 1, 6, 8, 74, 75, 76], [0, 1, 6, 8, 74, 75, 76], [0, 1, 6, 8, 74, 75, 76], [0, 1, 6, 8, 10, 74, 75, 76], [0, 1, 6, 8, 74, 75, 76], [0, 1, 6, 8], [0, 1, 6, 8], [0, 1, 6, 8], [0, 1, 6, 87, 88, 89], [0, 1, 6, 87, 88, 89], [0, 1, 6, 87, 88, 89], [0, 1, 6, 87, 88, 89], [0, 1, 6, 87, 88, 89, 90], [0, 1, 6, 87, 88, 89, 90], [0, 1, 6, 87, 88, 89], [0, 1, 6], [0, 1, 6, 87, 88, 89], [0, 1, 6, 87, 88, 89], [0, 1, 6, 87, 88, 89], [0, 1, 6, 87, 88, 89], [0, 1, 6, 12, 87, 88, 89], [0, 1, 6, 87, 88, 89], [0, 1, 6], [0, 1, 6], [0, 1, 6], [0, 1, 6, 107], [0, 1, 6], [0, 1, 6], [4, 5], [0, 1, 6], [0, 1, 6], [0, 1, 6], [0, 1, 6], [0, 1, 6, 122], [], [], [4, 5], [0, 1, 6], [0, 1, 6], [0, 1, 6], [0, 1, 6]]
def lv : Nat → List Nat := lvOf lvs
noncomputable def code : Code := bodyOf Tryz.f80
noncomputable def fe : FE := ⟨Tryz.f80, code, lv⟩
theorem ok (w0 : Base) : FOK (cx w0) context_together.id fe := ⟨Tryz.func80, by kernel_rfl, by kernel_rfl⟩
end context_together
namespace context_reader_hunk
def lvs : List (List Nat) := [[0], [0], [0, 2], [0, 2], [0, 2, 5], [0, 2, 5], [0, 2, 5, 6], [0, 2, 5, 6], [0, 2, 5, 8], [0, 2, 5, 8], [0, 2, 5, 8], [0, 2, 5, 8], [0, 2, 5, 8, 9, 10], [0, 2, 5, 8, 9, 10], [0, 2, 5, 8, 9, 10], [0, 2, 5, 8, 9, 42], [0, 2, 8], [0, 2, 8], [2, 3, 4], [0, 2, 5, 8, 9], [0, 2, 5, 8, 9], [0, 2, 5, 8, 9], [0, 2, 5, 8, 9, 11], [0, 2, 5, 8, 9, 11], [0, 2, 5, 8, 9, 10, 11, 12], [0, 2, 5, 8, 9, 10, 11, 12], [0, 2, 5, 8, 9, 10, 11, 12], [0, 2, 5, 8, 9, 11, 12, 62], [0, 2, 8], [0, 2, 8], [2, 3, 4], [0, 2, 5, 8, 9, 11, 12], [0, 2, 5, 8, 9, 11, 12], [0, 2, 5, 8, 9, 11, 12], [2, 5, 8, 9, 11, 12, 13], [2, 5, 8, 9, 11, 12, 13], [2, 5, 8, 9, 10, 12], [2, 5, 8, 9, 10, 12], [2, 5, 8, 9, 10, 12], [2, 5, 8, 9, 12, 81], [2, 5, 8], [2, 5, 8], [2, 3, 4], [2, 5, 8, 9, 12], [2, 5, 8, 9, 12], [2, 5, 8, 9, 12], [2, 5, 8, 9, 12], [2, 5, 8, 9, 12, 86, 87, 88], [2, 5, 8, 9, 12, 86, 87, 88], [2, 5, 8, 9, 12, 86, 87, 88], [2, 5, 8, 9, 12, 86, 87, 88], [2, 5, 8, 9, 12, 86, 87, 88, 89], [2, 5, 8, 9, 12, 86, 87, 88, 89], [2, 5, 8, 9, 12, 86, 87, 88], [2, 5, 8, 9, 12], [2, 5, 8, 9, 12, 86, 87, 88], [2, 5, 8, 9, 12, 86, 87, 88], [2, 5, 8, 9, 12, 86, 87, 88], [2, 5, 8, 9, 12, 86, 87, 88], [2, 5, 8, 9, 12, 15, 86, 87, 88], [2, 5, 8, 9, 12, 15, 86, 87, 88], [2, 5, 8, 9, 12, 15, 86, 87, 88], [2, 5, 8, 9, 12, 15, 86, 87, 88, 94], [2, 5, 8, 9, 12, 15, 86, 87, 88], [2, 5, 8, 9, 12, 15, 86, 87, 88], [2, 5, 8, 9, 12, 15, 86, 87, 88], [2, 5, 8, 9, 12, 15, 86, 87, 88], [2, 5, 8, 9, 12, 86, 87, 88, 101], [2, 5, 8, 9, 12, 86, 87, 88], [2, 5, 8, 9, 12, 86, 87, 88], [2, 5, 8, 9, 12, 86, 87, 88], [2, 5, 8, 9, 12], [2, 5, 8, 9, 12], [2, 5, 8, 9, 12], [2, 5, 8, 9, 12, 118], [2, 5, 8], [2, 5, 8], [2, 3, 4], [2, 5, 8, 9, 12], [2, 5, 8, 9, 12], [2, 5, 8, 9, 12], [2, 5, 8], [2, 5, 8], [2, 3, 4]]
def lv : Nat → List Nat := lvOf lvs
noncomputable def code : Code := bodyOf Tryz.f41
noncomputable def fe : FE := ⟨Tryz.f41, code, lv⟩
theorem ok (w0 : Base) : FOK (cx w0) context_reader_hunk.id fe := ⟨Tryz.func41, by kernel_rfl, by kernel_rfl⟩
end context_reader_hunk
namespace context_ahead
def lvs : List (List Nat) := [[0, 1], [0, 1], [0, 1], [0, 1], [0, 1], [0, 6], [0], [0], [4], [0], [0], [0], [4]]
def lv : Nat → List Nat := lvOf lvs
noncomputable def code : Code := bodyOf Tryz.f82
noncomputable def fe : FE := ⟨Tryz.f82, code, lv⟩
theorem ok (w0 : Base) : FOK (cx w0) context_ahead.id fe := ⟨Tryz.func82, by kernel_rfl, by kernel_rfl⟩
end context_ahead
namespace context_behind
def lvs : List (List Nat) := [[0, 1], [0, 1], [2, 3], [2, 3], [4]]
def lv : Nat → List Nat := lvOf lvs
noncomputable def code : Code := bodyOf Tryz.f42
noncomputable def fe : FE := ⟨Tryz.f42, code, lv⟩
theorem ok (w0 : Base) : FOK (cx w0) context_behind.id fe := ⟨Tryz.func42, by kernel_rfl, by kernel_rfl⟩
end context_behind
namespace selvagelaw12_one
def lvs : List (List Nat) := [[], [], [0], [0], [0]]
def lv : Nat → List Nat := lvOf lvs
noncomputable def code : Code := bodyOf Tryz.f35
noncomputable def fe : FE := ⟨Tryz.f35, code, lv⟩
theorem ok (w0 : Base) : FOK (cx w0) selvagelaw12_one.id fe := ⟨Tryz.func35, by kernel_rfl, by kernel_rfl⟩
end selvagelaw12_one
namespace selvagelaw12_works
def lvs : List (List Nat) := [[], [], [], [], [1, 2], [1, 2], [1, 2, 3, 4, 5, 6, 7, 8], [1, 2, 3, 4, 5, 6, 7, 8], [1, 2, 3, 4, 5, 6, 7, 8, 13, 14], [1, 2, 3, 4, 5, 6, 7, 8, 13, 14], [0]]
def lv : Nat → List Nat := lvOf lvs
noncomputable def code : Code := bodyOf Tryz.f15
noncomputable def fe : FE := ⟨Tryz.f15, code, lv⟩
theorem ok (w0 : Base) : FOK (cx w0) selvagelaw12_works.id fe := ⟨Tryz.func15, by kernel_rfl, by kernel_rfl⟩
end selvagelaw12_works
namespace strings_CutSuffix
def lvs : List (List Nat) := [[0, 1], [0, 1], [0, 1], [0, 1], [4, 5]]
def lv : Nat → List Nat := lvOf lvs
noncomputable def code : Code := bodyOf Tryz.f122
noncomputable def fe : FE := ⟨Tryz.f122, code, lv⟩
theorem ok (w0 : Base) : FOK (cx w0) strings_CutSuffix.id fe := ⟨Tryz.func122, by kernel_rfl, by kernel_rfl⟩
end strings_CutSuffix
namespace stringslite_CutSuffix
def lvs : List (List Nat) := [[0, 1], [0, 1], [0, 1], [0, 1], [0, 1], [0, 1, 9], [0], [0], [4, 5], [0, 1], [0, 1], [0, 1], [4, 5]]
def lv : Nat → List Nat := lvOf lvs
noncomputable def code : Code := bodyOf Tryz.f146
noncomputable def fe : FE := ⟨Tryz.f146, code, lv⟩
theorem ok (w0 : Base) : FOK (cx w0) stringslite_CutSuffix.id fe := ⟨Tryz.func146, by kernel_rfl, by kernel_rfl⟩
end stringslite_CutSuffix
namespace strings_Cut
def lvs : List (List Nat) := [[0, 1], [0, 1], [0, 1], [0, 1], [4, 5, 6]]
def lv : Nat → List Nat := lvOf lvs
noncomputable def code : Code := bodyOf Tryz.f123
noncomputable def fe : FE := ⟨Tryz.f123, code, lv⟩
theorem ok (w0 : Base) : FOK (cx w0) strings_Cut.id fe := ⟨Tryz.func123, by kernel_rfl, by kernel_rfl⟩
end strings_Cut
namespace stringslite_Cut
def lvs : List (List Nat) := [[0, 1], [0, 1], [0, 1], [0, 1], [0, 1], [0, 1, 7], [0, 1, 7], [0, 1, 7, 12], [0, 1, 7], [0, 1, 7], [4, 5, 6], [0], [0], [0], [4, 5, 6]]
def lv : Nat → List Nat := lvOf lvs
noncomputable def code : Code := bodyOf Tryz.f147
noncomputable def fe : FE := ⟨Tryz.f147, code, lv⟩
theorem ok (w0 : Base) : FOK (cx w0) stringslite_Cut.id fe := ⟨Tryz.func147, by kernel_rfl, by kernel_rfl⟩
end stringslite_Cut
namespace strings_Trim
def lvs : List (List Nat) := [[0, 1], [0, 1], [0, 1], [0, 1], [0, 1], [0, 1, 12], [0], [0], [4], [0, 1], [0, 1], [0, 1], [0, 1], [0, 1, 21], [0, 1], [0, 1], [4], [0, 1], [0, 1], [0, 1], [0, 1], [0, 1, 5, 6], [0, 1, 5, 6], [0, 1, 5, 34], [0, 5], [0, 5], [4], [0, 1], [0, 1], [0, 1], [4]]
def lv : Nat → List Nat := lvOf lvs
noncomputable def code : Code := bodyOf Tryz.f148
noncomputable def fe : FE := ⟨Tryz.f148, code, lv⟩
theorem ok (w0 : Base) : FOK (cx w0) strings_Trim.id fe := ⟨Tryz.func148, by kernel_rfl, by kernel_rfl⟩
end strings_Trim
namespace strings_TrimLeft
def lvs : List (List Nat) := [[0, 1], [0, 1], [0, 1], [0, 1], [0, 1], [0, 1, 12], [0], [0], [4], [0, 1], [0, 1], [0, 1], [0, 1], [0, 1, 21], [0, 1], [0, 1], [4], [0, 1], [0, 1], [0, 1], [0, 1], [0, 1, 5, 6], [0, 1, 5, 6], [0, 1, 5, 31], [0, 5], [0, 5], [4], [0, 1], [0, 1], [0, 1], [4]]
def lv : Nat → List Nat := lvOf lvs
noncomputable def code : Code := bodyOf Tryz.f149
noncomputable def fe : FE := ⟨Tryz.f149, code, lv⟩
theorem ok (w0 : Base) : FOK (cx w0) strings_TrimLeft.id fe := ⟨Tryz.func149, by kernel_rfl, by kernel_rfl⟩
end strings_TrimLeft
namespace strings_trimLeftByte
def lvs : List (List Nat) := [[0, 1], [0, 1], [0, 1], [0, 1], [0, 1], [0, 1], [0, 1], [0, 1], [0, 1, 13], [0, 1], [0], [0, 1], [0, 1], [0], [0], [4]]
def lv : Nat → List Nat := lvOf lvs
noncomputable def code : Code := bodyOf Tryz.f161
noncomputable def fe : FE := ⟨Tryz.f161, code, lv⟩
theorem ok (w0 : Base) : FOK (cx w0) strings_trimLeftByte.id fe := ⟨Tryz.func161, by kernel_rfl, by kernel_rfl⟩
end strings_trimLeftByte
namespace strings_trimRightByte
def lvs : List (List Nat) := [[0, 1], [0, 1], [0, 1], [0, 1], [0, 1], [0, 1], [0, 1], [0, 1], [0, 1, 16], [0, 1], [0], [0, 1], [0, 1], [0], [0], [4]]
def lv : Nat → List Nat := lvOf lvs
noncomputable def code : Code := bodyOf Tryz.f162
noncomputable def fe : FE := ⟨Tryz.f162, code, lv⟩
theorem ok (w0 : Base) : FOK (cx w0) strings_trimRightByte.id fe := ⟨Tryz.func162, by kernel_rfl, by kernel_rfl⟩
end strings_trimRightByte
namespace strings_trimLeftASCII
def lvs : List (List Nat) := [[0, 1], [0, 1], [0, 1], [0, 1], [0, 1], [0, 1], [0, 1], [0, 1], [0, 1, 7], [0, 1], [0], [0, 1], [0, 1], [0, 1], [0, 1], [0, 1, 12], [0], [0, 1], [0, 1], [0], [0], [4]]
def lv : Nat → List Nat := lvOf lvs
noncomputable def code : Code := bodyOf Tryz.f163
noncomputable def fe : FE := ⟨Tryz.f163, code, lv⟩
theorem ok (w0 : Base) : FOK (cx w0) strings_trimLeftASCII.id fe := ⟨Tryz.func163, by kernel_rfl, by kernel_rfl⟩
end strings_trimLeftASCII
namespace strings_trimRightASCII
def lvs : List (List Nat) := [[0, 1], [0, 1], [0, 1], [0, 1], [0, 1], [0, 1], [0, 1], [0, 1], [0, 1, 7], [0, 1], [0], [0, 1], [0, 1], [0, 1], [0, 1], [0, 1, 15], [0], [0, 1], [0, 1], [0], [0], [4]]
def lv : Nat → List Nat := lvOf lvs
noncomputable def code : Code := bodyOf Tryz.f164
noncomputable def fe : FE := ⟨Tryz.f164, code, lv⟩
theorem ok (w0 : Base) : FOK (cx w0) strings_trimRightASCII.id fe := ⟨Tryz.func164, by kernel_rfl, by kernel_rfl⟩
end strings_trimRightASCII
namespace strings_makeASCIISet
def lvs : List (List Nat) := [[0], [0], [0, 2], [0, 2], [0, 2], [0, 2, 4], [0, 2, 4], [0, 2, 4], [0, 2, 4], [0, 2, 4], [0, 2, 4, 9], [0, 2, 4], [2], [0, 2, 4], [0, 2, 4], [0, 2, 4], [0, 2, 4], [0, 2, 4, 5], [0, 2, 4, 5], [0, 2, 4, 5], [0, 2, 4, 5, 16], [2], [2], [2, 3], [0, 2, 4, 5], [0, 2, 4, 5], [0, 2, 4], [2], [2], [2, 3]]
def lv : Nat → List Nat := lvOf lvs
noncomputable def code : Code := bodyOf Tryz.f143
noncomputable def fe : FE := ⟨Tryz.f143, code, lv⟩
theorem ok (w0 : Base) : FOK (cx w0) strings_makeASCIISet.id fe := ⟨Tryz.func143, by kernel_rfl, by kernel_rfl⟩
end strings_makeASCIISet
namespace strings_asciiSet_contains
def lvs : List (List Nat) := [[0, 1], [0, 1], [0, 1], [0, 1], [4]]
def lv : Nat → List Nat := lvOf lvs
noncomputable def code : Code := bodyOf Tryz.f144
noncomputable def fe : FE := ⟨Tryz.f144, code, lv⟩
theorem ok (w0 : Base) : FOK (cx w0) strings_asciiSet_contains.id fe := ⟨Tryz.func144, by kernel_rfl, by kernel_rfl⟩
end strings_asciiSet_contains
namespace strconv_Atoi
def lvs : List (List Nat) := [[0], [0], [0], [0], [0, 4, 5], [0, 4, 5], [0, 4, 5], [0, 4, 5, 12], [0, 4, 5], [0, 4, 5], [2, 3], [4], [4], [4], [2, 3]]
def lv : Nat → List Nat := lvOf lvs
noncomputable def code : Code := bodyOf Tryz.f150
noncomputable def fe : FE := ⟨Tryz.f150, code, lv⟩
theorem ok (w0 : Base) : FOK (cx w0) strconv_Atoi.id fe := ⟨Tryz.func150, by kernel_rfl, by kernel_rfl⟩
end strconv_Atoi
namespace internal_strconv_Atoi
def lvs : List (List Nat) := [[0], [0], [0], [0], [0, 4], [0, 4], [0, 4], [0, 30], [0], [0], [0, 5], [0, 5], [0, 5], [0, 5, 39], [0, 5], [0, 5], [0, 5], [0, 5], [0, 5, 44], [], [], [2, 3], [0, 5], [0, 5], [0, 5], [0, 5], [0, 5, 6], [0, 5, 6], [0, 5, 6], [5, 6, 47, 48, 49], [5, 6, 47, 48, 49], [5, 6, 47, 48, 49], [5, 6, 47, 48, 49], [5, 6, 47, 48, 49, 50], [5, 6, 47, 48, 49, 50], [5, 6, 47, 48, 49], [5, 6], [5, 6, 47, 48, 49], [5, 6, 47, 48, 49], [5, 6, 47, 48, 49], [5, 6, 47, 48, 49], [5, 6, 8, 47, 48, 49], [5, 6, 8, 47, 48, 49], [5, 6, 8, 47, 48, 49], [5, 6, 8, 47, 48, 49], [5, 6, 8, 47, 48, 49], [5, 6, 8, 47, 48, 49, 56], [], [], [2, 3], [5, 6, 8, 47, 48, 49], [5, 6, 8, 47, 48, 49], [5, 6, 47, 48, 49], [5, 6], [5, 6], [5, 6], [6, 66], [6], [6], [6], [6], [2, 3], [0], [0], [0], [9, 10], [9, 10], [2, 3]]
def lv : Nat → List Nat := lvOf lvs
noncomputable def code : Code := bodyOf Tryz.f167
noncomputable def fe : FE := ⟨Tryz.f167, code, lv⟩
theorem ok (w0 : Base) : FOK (cx w0) internal_strconv_Atoi.id fe := ⟨Tryz.func167, by kernel_rfl, by kernel_rfl⟩
end internal_strconv_Atoi
namespace stringslite_HasSuffix
def lvs : List (List Nat) := [[0, 1], [0, 1], [0, 1], [0, 1], [4]]
def lv : Nat → List Nat := lvOf lvs
noncomputable def code : Code := bodyOf Tryz.f115
noncomputable def fe : FE := ⟨Tryz.f115, code, lv⟩
theorem ok (w0 : Base) : FOK (cx w0) stringslite_HasSuffix.id fe := ⟨Tryz.func115, by kernel_rfl, by kernel_rfl⟩
end stringslite_HasSuffix
namespace stringslite_Index
def lvs : List (List Nat) := [[0, 1], [0, 1], [0, 1], [0, 1], [0, 1, 5], [0, 1, 5], [0, 1, 5], [0, 1, 5], [0, 1, 5, 16], [], [], [4], [0, 1, 5], [0, 1, 5], [0, 1, 5, 24], [0, 1], [0, 1], [4], [0, 1, 5], [0, 1, 5], [0, 1, 5, 31], [], [], [4], [0, 1, 5], [0, 1, 5], [0, 1, 5, 36], [0, 1], [0, 1], [4], [0, 1, 5], [0, 1, 5], [0, 1, 5], [0, 1, 5, 6], [0, 1, 5, 6], [0, 1, 5, 6, 7], [0, 1, 5, 6, 7], [0, 1, 5, 6, 7, 8], [0, 1, 5, 6, 7, 8], [0, 1, 5, 6, 7, 8, 9], [0, 1, 5, 6, 7, 8, 9], [0, 1, 5, 6, 7, 8, 9, 10], [0, 1, 5, 6, 7, 8, 9, 10], [0, 1, 5, 6, 7, 8, 9, 10], [0, 1, 5, 6, 7, 8, 9, 10], [0, 1, 5, 6, 7, 8, 9, 10], [0, 1, 5, 6, 7, 8, 9, 10], [0, 1, 5, 6, 7, 8, 9, 10, 59], [0, 1, 5, 6, 7, 8, 9, 10], [], [0, 1, 5, 6, 7, 8, 9, 10], [0, 1, 5, 6, 7, 8, 9, 10], [0, 1, 5, 6, 7, 8, 9, 10], [0, 1, 5, 6, 7, 8, 9, 10], [0, 1, 5, 6, 7, 8, 9, 10, 64], [0, 1, 5, 6, 7, 8, 9, 10], [0, 1, 5, 6, 7, 8, 9, 10], [0, 1, 5, 6, 7, 8, 9, 10, 11], [0, 1, 5, 6, 7, 8, 9, 10, 11], [0, 1, 5, 6, 7, 8, 9, 10, 11], [0, 1, 5, 6, 7, 8, 9, 10, 11, 73], [], [], [4], [0, 1, 5, 6, 7, 8, 9, 10, 11], [0, 1, 5, 6, 7, 8, 9, 10, 11], [0, 1, 5, 6, 7, 8, 9, 10], [0, 1, 5, 6, 7, 8, 9, 10], [0, 1, 5, 6, 7, 8, 9, 10], [0, 1, 5, 6, 7, 8, 9, 10], [0, 1, 5, 6, 7, 8, 9, 10, 93], [8], [8], [4], [0, 1, 5, 6, 7, 8, 9, 10], [0, 1, 5, 6, 7, 8, 9, 10], [0, 1, 5, 6, 7, 8, 9, 10], [0, 1, 5, 6, 7, 8, 9, 10], [0, 1, 5, 6, 7, 8, 9, 10], [0, 1, 5, 6, 7, 8, 9, 10], [0, 1, 5, 6, 7, 8, 9, 10], [0, 1, 5, 6, 7, 8, 9, 10, 107], [0, 1, 8], [0, 1, 8], [8, 12], [8, 12], [8, 12], [8, 12, 114], [8, 12], [8, 12], [4], [], [], [], [4], [0, 1, 5, 6, 7, 8, 9, 10], [0, 1, 5, 6, 7, 8, 9, 10], [0, 1, 5, 6, 7, 8, 9, 10, 132], [0, 1, 8], [0, 1, 8], [8, 13], [8, 13], [8, 13], [8, 13, 139], [], [], [4], [8, 13], [8, 13], [8, 13], [4], [0, 1, 5, 6, 7, 8, 9, 10], [], [], [4]]
def lv : Nat → List Nat := lvOf lvs
noncomputable def code : Code := bodyOf Tryz.f139
noncomputable def fe : FE := ⟨Tryz.f139, code, lv⟩
theorem ok (w0 : Base) : FOK (cx w0) stringslite_Index.id fe := ⟨Tryz.func139, by kernel_rfl, by kernel_rfl⟩
end stringslite_Index
namespace stringslite_IndexByte
def lvs : List (List Nat) := [[0, 1], [0, 1], [0, 1], [0, 1], [4]]
def lv : Nat → List Nat := lvOf lvs
noncomputable def code : Code := bodyOf Tryz.f101
noncomputable def fe : FE := ⟨Tryz.f101, code, lv⟩
theorem ok (w0 : Base) : FOK (cx w0) stringslite_IndexByte.id fe := ⟨Tryz.func101, by kernel_rfl, by kernel_rfl⟩
end stringslite_IndexByte
namespace strings_HasSuffix
end strings_HasSuffix
end Go.Sv
