/- What the code of Go functions comes to over abstract stores, piece by piece; each equation by the kernel. Printed by a program of this session. -/
import Derived.Test.YtgdnoobpnhmpjaaGreatDoorSvT
import Derived.KernelRfl
set_option linter.unusedVariables false
set_option maxRecDepth 100000
namespace Go.Sv
open Go Go.Proofs
namespace selvagelaw28_works
def lvs : List (List Nat) := [[], [], [], [], [1, 2, 3], [1, 2, 3], [1, 2, 3, 4, 5, 6], [1, 2, 3, 4, 5, 6], [0]]
def lv : Nat → List Nat := lvOf lvs
noncomputable def code : Code := bodyOf Tryz.f10
noncomputable def fe : FE := ⟨Tryz.f10, code, lv⟩
theorem ok (w0 : Base) : FOK (cx w0) selvagelaw28_works.id fe := ⟨Tryz.func10, by kernel_rfl, by kernel_rfl⟩
end selvagelaw28_works
namespace stream_Parse
def lvs : List (List Nat) := [[0], [0], [0], [0], [0], [0, 13], [], [], [2, 3, 4], [0], [0], [0], [5], [5], [5], [5, 6], [5, 6], [5, 6, 37], [5, 6], [5], [5], [5], [5], [5], [5], [5, 7, 8], [5, 7, 8], [5, 7, 8], [5, 7, 54], [5], [5], [2, 3, 4], [5, 7], [5, 7], [5, 7], [5, 7, 9, 10], [5, 7, 9, 10], [5, 7, 9, 10], [5, 7, 9, 10, 61], [5, 7, 9, 10, 61], [5, 7, 9, 10, 61], [5, 7, 9, 10, 61, 65], [5], [5, 7, 9, 10, 61], [5, 7, 9, 10, 61], [5, 7, 9, 10, 61, 72], [5], [5, 7, 9, 10, 61], [5, 7, 9, 10, 61], [5, 7, 9, 10, 61, 79], [5], [5, 7, 9, 10, 61], [5, 7, 9, 10, 61], [5, 7, 9, 10, 86], [5, 9, 10], [5, 7, 9, 10], [5, 9, 10], [5, 9, 10], [5, 9, 10, 91], [5, 9, 10], [5, 9, 10], [2, 3, 4], [5]]
def lv : Nat → List Nat := lvOf lvs
noncomputable def code : Code := bodyOf Tryz.f7
noncomputable def fe : FE := ⟨Tryz.f7, code, lv⟩
theorem ok (w0 : Base) : FOK (cx w0) stream_Parse.id fe := ⟨Tryz.func7, by kernel_rfl, by kernel_rfl⟩
end stream_Parse
namespace stream_reader_now
def lvs : List (List Nat) := [[0, 1], [0, 1], [0, 1], [0, 1], [0, 1], [0, 1, 17], [], [], [4, 5], [0, 1], [0, 1], [0, 1], [4, 5]]
def lv : Nat → List Nat := lvOf lvs
noncomputable def code : Code := bodyOf Tryz.f23
noncomputable def fe : FE := ⟨Tryz.f23, code, lv⟩
theorem ok (w0 : Base) : FOK (cx w0) stream_reader_now.id fe := ⟨Tryz.func23, by kernel_rfl, by kernel_rfl⟩
end stream_reader_now
namespace stream_reader_begins
def lvs : List (List Nat) := [[0, 1], [0, 1], [0, 1], [0, 1], [0, 1, 7], [0, 1, 7], [0, 1, 7], [0, 1, 7], [0, 1, 7, 14], [], [], [4], [0, 1, 7], [0, 1, 7], [0, 1, 7, 21], [], [], [4], [0, 1, 7], [0, 1, 7], [7, 32], [], [], [4], [7], [7], [43], [], [], [4], [], [], [], [4]]
def lv : Nat → List Nat := lvOf lvs
noncomputable def code : Code := bodyOf Tryz.f24
noncomputable def fe : FE := ⟨Tryz.f24, code, lv⟩
theorem ok (w0 : Base) : FOK (cx w0) stream_reader_begins.id fe := ⟨Tryz.func24, by kernel_rfl, by kernel_rfl⟩
end stream_reader_begins
namespace stream_reader_named
def lvs : List (List Nat) := [[0, 1, 2], [0, 1, 2], [0, 1, 2], [0, 1, 2], [0, 1, 8, 9, 10, 11, 12, 13], [0, 1, 8, 9, 10, 11, 12, 13], [0, 1, 8, 9, 10, 11, 12, 13], [0, 1, 8, 9, 10, 11, 12, 13, 26], [0, 12, 13], [0, 12, 13], [6, 7], [0, 1, 8, 9, 10, 11], [0, 1, 8, 9, 10, 11], [0, 1, 8, 9, 10, 11], [], [], [6, 7]]
def lv : Nat → List Nat := lvOf lvs
noncomputable def code : Code := bodyOf Tryz.f25
noncomputable def fe : FE := ⟨Tryz.f25, code, lv⟩
theorem ok (w0 : Base) : FOK (cx w0) stream_reader_named.id fe := ⟨Tryz.func25, by kernel_rfl, by kernel_rfl⟩
end stream_reader_named
namespace stream_reader_plain
def lvs : List (List Nat) := [[0], [0], [0], [0], [0, 4, 5, 6, 7], [0, 4, 5, 6, 7], [0, 4, 5, 6, 7], [0, 4, 5, 6, 7, 17], [0, 6, 7], [0, 6, 7], [2, 3], [0, 4, 5], [0, 4, 5], [0, 4, 5], [], [], [2, 3]]
def lv : Nat → List Nat := lvOf lvs
noncomputable def code : Code := bodyOf Tryz.f28
noncomputable def fe : FE := ⟨Tryz.f28, code, lv⟩
theorem ok (w0 : Base) : FOK (cx w0) stream_reader_plain.id fe := ⟨Tryz.func28, by kernel_rfl, by kernel_rfl⟩
end stream_reader_plain
namespace stream_reader_ed
def lvs : List (List Nat) := [[0], [0], [0, 2], [0, 2], [0, 2], [0, 2], [0, 2], [0, 2], [0, 2, 3, 4], [0, 2, 3, 4], [0, 2, 4, 5, 6], [0, 2, 4, 5, 6], [0, 2, 4, 5, 6], [0, 2, 6, 25], [0, 2], [0, 2, 6], [0, 2, 6], [0, 2, 6], [0, 2, 6], [0, 2, 6], [0, 2, 6], [0, 2, 6], [0, 2, 6], [0, 2, 28], [0, 2], [0, 2], [0, 2], [0, 2], [0, 2], [0, 2, 3, 4], [0, 2, 3, 4], [0, 2, 3, 4], [0, 2, 3, 36], [0, 2], [0, 2, 3], [0, 2, 3], [0, 2, 3], [0, 2, 3], [0, 2]]
def lv : Nat → List Nat := lvOf lvs
noncomputable def code : Code := bodyOf Tryz.f29
noncomputable def fe : FE := ⟨Tryz.f29, code, lv⟩
theorem ok (w0 : Base) : FOK (cx w0) stream_reader_ed.id fe := ⟨Tryz.func29, by kernel_rfl, by kernel_rfl⟩
end stream_reader_ed
namespace stream_reader_note
def lvs : List (List Nat) := [[0, 1], [0, 1], [0, 1], [0, 4, 5], [0, 4, 5], [0, 4, 14], [0, 4], [0, 4], [0, 6, 7, 8], [0, 6, 7, 8], [0, 6, 27], [0, 6], [0], [0], [0]]
def lv : Nat → List Nat := lvOf lvs
noncomputable def code : Code := bodyOf Tryz.f30
noncomputable def fe : FE := ⟨Tryz.f30, code, lv⟩
theorem ok (w0 : Base) : FOK (cx w0) stream_reader_note.id fe := ⟨Tryz.func30, by kernel_rfl, by kernel_rfl⟩
end stream_reader_note
namespace stream_command
def lvs : List (List Nat) := [[0], [0], [0], [0], [0, 5, 6], [0, 5, 6], [0, 5, 6], [0, 5, 6, 14], [0, 5, 6, 14], [0, 5, 6, 14], [0, 5, 6, 14], [0, 5, 6, 14, 15], [0, 5, 6, 14, 15], [0, 5, 6, 14], [0, 5, 6, 14], [0, 5, 6, 14, 15], [0, 5, 6, 14, 15], [0, 5, 6, 14], [0, 5, 6, 14, 15], [0, 5, 6], [0, 5, 6], [2, 3, 4], [0, 5, 6, 14], [0, 5, 6, 14], [0, 5, 6, 14, 26], [0, 5, 6], [0, 5, 6], [2, 3, 4], [0, 5, 14], [0, 5, 14], [0, 5, 14], [0, 5, 14, 35], [0, 5, 14, 35], [0, 5, 14], [0, 5, 14, 35], [0, 5], [0, 5], [2, 3, 4], [0, 5, 14], [0, 5, 14], [0, 5, 41], [0, 5], [0, 5], [0, 5, 7, 8], [0, 5, 7, 8], [2, 3, 4], [], [], [], [2, 3, 4]]
def lv : Nat → List Nat := lvOf lvs
noncomputable def code : Code := bodyOf Tryz.f55
noncomputable def fe : FE := ⟨Tryz.f55, code, lv⟩
theorem ok (w0 : Base) : FOK (cx w0) stream_command.id fe := ⟨Tryz.func55, by kernel_rfl, by kernel_rfl⟩
end stream_command
namespace stream_reader_starts
def lvs : List (List Nat) := [[0, 1, 2], [0, 1, 2], [0, 1, 2], [0, 1, 2], [2, 7, 8], [2, 7, 8], [6]]
def lv : Nat → List Nat := lvOf lvs
noncomputable def code : Code := bodyOf Tryz.f56
noncomputable def fe : FE := ⟨Tryz.f56, code, lv⟩
theorem ok (w0 : Base) : FOK (cx w0) stream_reader_starts.id fe := ⟨Tryz.func56, by kernel_rfl, by kernel_rfl⟩
end stream_reader_starts
namespace stream_change
def lvs : List (List Nat) := [[0], [0], [0], [0], [3, 4], [3, 4], [3, 4], [3, 21], [], [], [2], [3], [3], [3], [3, 4], [3, 4], [2]]
def lv : Nat → List Nat := lvOf lvs
noncomputable def code : Code := bodyOf Tryz.f57
noncomputable def fe : FE := ⟨Tryz.f57, code, lv⟩
theorem ok (w0 : Base) : FOK (cx w0) stream_change.id fe := ⟨Tryz.func57, by kernel_rfl, by kernel_rfl⟩
end stream_change
namespace stream_reader_text
def lvs : List (List Nat) := [[0], [0], [0], [0], [2]]
def lv : Nat → List Nat := lvOf lvs
noncomputable def code : Code := bodyOf Tryz.f58
noncomputable def fe : FE := ⟨Tryz.f58, code, lv⟩
theorem ok (w0 : Base) : FOK (cx w0) stream_reader_text.id fe := ⟨Tryz.func58, by kernel_rfl, by kernel_rfl⟩
end stream_reader_text
namespace stream_reader_add
def lvs : List (List Nat) := [[0, 1, 2], [0, 1, 2], [0, 2, 4], [0, 2, 4], [0, 2, 4], [0, 2, 4], [0, 2, 4], [0, 2, 4], [0, 2]]
def lv : Nat → List Nat := lvOf lvs
noncomputable def code : Code := bodyOf Tryz.f59
noncomputable def fe : FE := ⟨Tryz.f59, code, lv⟩
theorem ok (w0 : Base) : FOK (cx w0) stream_reader_add.id fe := ⟨Tryz.func59, by kernel_rfl, by kernel_rfl⟩
end stream_reader_add
namespace stream_reader_taken
def lvs : List (List Nat) := [[0, 1], [0, 1], [0, 1], [0, 1], [4]]
def lv : Nat → List Nat := lvOf lvs
noncomputable def code : Code := bodyOf Tryz.f60
noncomputable def fe : FE := ⟨Tryz.f60, code, lv⟩
theorem ok (w0 : Base) : FOK (cx w0) stream_reader_taken.id fe := ⟨Tryz.func60, by kernel_rfl, by kernel_rfl⟩
end stream_reader_taken
namespace lines_Count
def lvs : List (List Nat) := [[0], [0], [0], [0], [0, 3], [0, 3], [0, 3], [3, 12], [3], [3], [3], [3], [2]]
def lv : Nat → List Nat := lvOf lvs
noncomputable def code : Code := bodyOf Tryz.f93
noncomputable def fe : FE := ⟨Tryz.f93, code, lv⟩
theorem ok (w0 : Base) : FOK (cx w0) lines_Count.id fe := ⟨Tryz.func93, by kernel_rfl, by kernel_rfl⟩
end lines_Count
namespace quote_Unquote
def lvs : List (List Nat) := [[0], [0], [0], [0], [0], [0, 16], [0], [0], [0, 5], [0, 5], [0, 5], [0, 5, 20], [0], [0, 5], [0, 5], [0, 5], [2, 3, 4], [0], [0], [0], [0, 6], [0, 6], [0, 6], [0, 6, 7], [0, 6, 7], [0, 6, 7], [0, 6, 7], [0, 6, 7], [0, 6, 7, 32], [0, 6, 7], [], [0, 6, 7], [0, 6, 7], [0, 6, 7], [0, 6, 7], [0, 6, 7, 8], [0, 6, 7, 8], [0, 6, 7, 8], [0, 6, 7, 8, 36], [0, 6, 7], [0, 6, 7], [2, 3, 4], [0, 6, 7, 8], [0, 6, 7, 8], [0, 6, 7, 8, 45], [], [], [2, 3, 4], [0, 6, 7, 8], [0, 6, 7, 8], [0, 6, 7, 8, 49], [0, 6, 7, 8], [0, 6, 7, 8], [0, 6, 7], [0, 6, 7], [0, 6, 7], [0, 6, 7], [0, 6, 7], [0, 6, 7], [0, 6, 7, 9], [0, 6, 7, 9], [0, 6, 7, 9], [0, 6, 7, 9, 63], [], [0, 6, 7, 9], [0, 6, 7, 9], [0, 6, 7, 9], [0, 6, 7, 9], [0, 6, 7, 9, 10, 11], [0, 6, 7, 9, 10, 11], [0, 6, 7, 9, 10, 70], [0, 6, 7, 10], [0, 6, 7, 10], [0, 6, 7], [0, 6, 7], [0, 6, 7], [0, 6, 7, 9], [0, 6, 7, 9], [0, 6, 7, 9], [0, 6, 7, 12, 13], [0, 6, 7, 12, 13], [0, 6, 7, 12, 13], [0, 6, 7, 12, 83], [], [], [2, 3, 4], [0, 6, 7, 12], [0, 6, 7, 12], [0, 6, 7, 12], [0, 6, 7], [], [], [2, 3, 4]]
def lv : Nat → List Nat := lvOf lvs
noncomputable def code : Code := bodyOf Tryz.f69
noncomputable def fe : FE := ⟨Tryz.f69, code, lv⟩
theorem ok (w0 : Base) : FOK (cx w0) quote_Unquote.id fe := ⟨Tryz.func69, by kernel_rfl, by kernel_rfl⟩
end quote_Unquote
namespace quote_meant
def lvs : List (List Nat) := [[0], [0], [0], [0], [0], [0, 4], [0, 4], [0, 4], [0, 4], [0, 4], [0, 4, 6], [0, 4], [], [0, 4], [0, 4], [0, 4], [0, 4], [0, 4, 13], [4], [4], [2, 3], [0, 4], [0, 4], [], [], [2, 3]]
def lv : Nat → List Nat := lvOf lvs
noncomputable def code : Code := bodyOf Tryz.f107
noncomputable def fe : FE := ⟨Tryz.f107, code, lv⟩
theorem ok (w0 : Base) : FOK (cx w0) quote_meant.id fe := ⟨Tryz.func107, by kernel_rfl, by kernel_rfl⟩
end quote_meant
namespace quote_octal
def lvs : List (List Nat) := [[0], [0], [0], [0], [0], [0, 13], [], [], [2, 3], [0], [0], [0], [0, 4], [0, 4], [0, 4], [0, 4, 14], [0, 4, 14], [0, 4, 14], [0, 4, 14], [0, 4, 14, 15], [0, 4, 14, 15], [0, 4, 14], [4], [0, 4, 14], [0, 4, 14], [0, 4, 14], [0, 4, 14], [0, 4, 5, 14], [0, 4, 5, 14], [0, 4, 5, 14], [0, 4, 5, 14, 26], [], [], [2, 3], [0, 4, 5, 14], [0, 4, 5, 14], [0, 4, 14], [4], [4], [2, 3]]
def lv : Nat → List Nat := lvOf lvs
noncomputable def code : Code := bodyOf Tryz.f108
noncomputable def fe : FE := ⟨Tryz.f108, code, lv⟩
theorem ok (w0 : Base) : FOK (cx w0) quote_octal.id fe := ⟨Tryz.func108, by kernel_rfl, by kernel_rfl⟩
end quote_octal
namespace normal_Parse
def lvs : List (List Nat) := [[0], [0], [0], [0], [0], [0, 18], [], [], [2, 3, 4, 5], [0], [0], [0], [0, 6], [0, 6], [0, 6], [0, 6, 27], [0, 6], [0, 6], [0, 6], [0, 6], [0, 7], [0, 7], [0, 7, 8], [0, 7, 8], [0, 7, 8], [0, 7, 8], [0, 7, 8], [0, 7, 8], [0, 7, 8, 43], [0, 7, 8], [0, 7, 8], [0, 7, 8], [0, 7, 8], [0, 7, 8], [0, 7, 8, 9], [0, 7, 8, 9], [0, 7, 8, 9], [0, 7, 8, 64], [0, 7, 8], [0, 7, 8], [0, 7, 8], [0, 7, 8], [0, 7, 8, 10], [0, 7, 8, 10], [0, 7, 8, 10, 11, 12], [0, 7, 8, 10, 11, 12], [0, 7, 8, 10, 11, 12], [0, 7, 8, 10, 11, 86], [10], [10], [2, 3, 4, 5], [0, 7, 8, 10, 11], [0, 7, 8, 10, 11], [0, 7, 8, 10, 11], [0, 7, 8, 10, 11], [0, 7, 8, 10, 11], [0, 7, 8, 10, 11, 12], [0, 7, 8, 10, 11, 12], [0, 7, 8, 10, 11, 12], [0, 7, 8, 10, 11, 12, 110], [0, 7, 8, 10, 11], [0, 7, 8, 10, 11], [0, 7, 8, 10, 11, 12], [0, 7, 8, 10, 11, 12], [0, 7, 8, 10, 11, 12, 134], [0, 7, 8, 10, 11, 12], [0, 7, 8, 10, 11, 12], [0, 7, 8, 10, 11, 12], [0, 7, 8, 10, 11, 12], [0, 7, 8, 10, 11, 12], [0, 7, 8, 10, 11, 12], [0, 7, 8, 10, 11, 150], [7], [7], [2, 3, 4, 5], [0, 7, 8, 10, 11], [0, 7, 8, 10, 11], [0, 7, 8, 10, 11], [0, 7, 8, 10, 11], [0, 7, 8, 10, 11], [0, 7, 8, 10, 11, 157], [10], [10], [2, 3, 4, 5], [0, 7, 8, 10, 11], [0, 7, 8, 10, 11], [0, 7, 8, 10, 11, 163], [10], [10], [2, 3, 4, 5], [0, 7, 8, 11], [0, 7, 8, 11], [0, 7, 8], [0, 7, 8], [0, 7, 8, 13], [0, 7, 8, 13], [0, 7, 8, 13], [0, 8, 13, 192, 193, 194], [0, 8, 13, 192, 193, 194], [0, 8, 13, 192, 193, 194], [0, 8, 13, 192, 193, 194], [0, 8, 13, 192, 193, 194, 195], [0, 8, 13, 192, 193, 194, 195], [0, 8, 13, 192, 193, 194], [0, 8, 13], [0, 8, 13, 192, 193, 194], [0, 8, 13, 192, 193, 194], [0, 8, 13, 192, 193, 194], [0, 8, 13, 192, 193, 194], [0, 8, 13, 15, 192, 193, 194], [0, 8, 13, 192, 193, 194], [0, 8, 13], [0, 8, 13], [2, 3, 4, 5]]
def lv : Nat → List Nat := lvOf lvs
noncomputable def code : Code := bodyOf Tryz.f68
noncomputable def fe : FE := ⟨Tryz.f68, code, lv⟩
theorem ok (w0 : Base) : FOK (cx w0) normal_Parse.id fe := ⟨Tryz.func68, by kernel_rfl, by kernel_rfl⟩
end normal_Parse
namespace normal_command
def lvs : List (List Nat) := [[0], [0], [0, 2], [0, 2], [0, 2, 4], [0, 2, 4], [0, 2, 4], [0, 2, 4], [0, 2, 4, 5, 7, 8, 9], [0, 2, 4, 5, 7, 8, 9], [0, 2, 4, 5, 7, 8, 9], [0, 2, 4, 5, 7, 8, 26], [2, 4], [2, 4], [2, 3], [0, 2, 4, 5, 7, 8], [0, 2, 4, 5, 7, 8], [0, 2, 4, 5, 7, 8], [0, 2, 4, 5, 7, 8, 10], [0, 2, 4, 5, 7, 8, 10], [0, 2, 4, 5, 6, 7, 8, 9, 10, 11, 12], [0, 2, 4, 5, 6, 7, 8, 9, 10, 11, 12], [0, 2, 4, 5, 6, 7, 8, 9, 10, 11, 12], [2, 4, 5, 6, 7, 8, 10, 11, 12, 44], [2, 4], [2, 4], [2, 3], [2, 4, 5, 6, 7, 8, 10, 11, 12], [2, 4, 5, 6, 7, 8, 10, 11, 12], [2, 4, 5, 6, 7, 8, 10, 11, 12], [2, 4, 5, 6, 7, 8, 10, 11, 12], [2, 4, 5, 6, 7, 8, 11, 12, 46], [2, 4, 5, 6, 7, 8, 11, 12, 46], [2, 4, 5, 6, 7, 8, 11, 12, 46], [2, 4, 5, 6, 7, 8, 11, 12, 46, 48], [2, 5, 7, 11, 12], [2, 4, 6, 7, 8, 11, 12, 46], [2, 4, 6, 7, 8, 11, 12, 46], [2, 4, 6, 7, 8, 11, 12, 46, 56], [2, 6, 7, 8, 11], [2, 4, 7, 8, 11, 12, 46], [2, 4, 7, 8, 11, 12, 46], [2, 4, 7, 8, 11, 12, 64], [2, 7, 8, 11, 12], [2, 4], [2, 4], [2, 3], [2, 7, 8, 9, 11, 12], [2, 7, 8, 9, 11, 12], [2, 3]]
def lv : Nat → List Nat := lvOf lvs
noncomputable def code : Code := bodyOf Tryz.f103
noncomputable def fe : FE := ⟨Tryz.f103, code, lv⟩
theorem ok (w0 : Base) : FOK (cx w0) normal_command.id fe := ⟨Tryz.func103, by kernel_rfl, by kernel_rfl⟩
end normal_command
namespace normal_reader_take
def lvs : List (List Nat) := [[0, 1, 2, 3, 4], [0, 1, 2, 3, 4], [0, 1, 2, 3, 4], [0, 1, 2, 3, 4], [0, 1, 2, 3, 4], [0, 1, 3, 4, 12, 13], [0, 1, 3, 4, 12, 13], [0, 1, 3, 4, 12, 13], [0, 1, 3, 4, 12, 13], [0, 1, 3, 4, 12, 13, 14], [0, 1, 3, 4, 12, 13, 14], [0, 1, 3, 4, 12, 13], [], [0, 1, 3, 4, 12, 13], [0, 1, 3, 4, 12, 13], [0, 1, 3, 4, 12, 13], [0, 1, 3, 4, 12, 13], [0, 1, 3, 4, 12, 13], [0, 1, 3, 4, 12, 13, 39], [], [], [10], [0, 1, 3, 4, 12, 13], [0, 1, 3, 4, 12, 13], [0, 1, 3, 4, 12, 13], [0, 1, 3, 4, 11, 12, 13], [0, 1, 3, 4, 11, 12, 13], [0, 1, 3, 4, 11, 12, 13], [0, 1, 3, 4, 11, 12, 13], [0, 1, 3, 4, 11, 12, 13], [0, 1, 3, 4, 11, 12, 13, 83], [0, 1, 3, 4, 11, 12, 13], [0, 1, 3, 4, 11, 12, 13], [0, 1, 3, 4, 11, 12, 13], [0, 1, 3, 4, 11, 12, 13], [0, 1, 3, 4, 11, 12, 13], [0, 1, 3, 4, 12, 13], [], [], [10]]
def lv : Nat → List Nat := lvOf lvs
noncomputable def code : Code := bodyOf Tryz.f104
noncomputable def fe : FE := ⟨Tryz.f104, code, lv⟩
theorem ok (w0 : Base) : FOK (cx w0) normal_reader_take.id fe := ⟨Tryz.func104, by kernel_rfl, by kernel_rfl⟩
end normal_reader_take
namespace normal_follows
def lvs : List (List Nat) := [[0, 1], [0, 1], [2, 3], [2, 3], [4]]
def lv : Nat → List Nat := lvOf lvs
noncomputable def code : Code := bodyOf Tryz.f105
noncomputable def fe : FE := ⟨Tryz.f105, code, lv⟩
theorem ok (w0 : Base) : FOK (cx w0) normal_follows.id fe := ⟨Tryz.func105, by kernel_rfl, by kernel_rfl⟩
end normal_follows
namespace normal_ranged
def lvs : List (List Nat) := [[0], [0], [0], [0], [0, 7, 8], [0, 7, 8], [0, 7, 8], [0, 7, 8, 22], [0, 7, 8], [0, 7, 8], [2, 3, 4, 5, 6], [0, 7], [0, 7], [0, 7], [0, 7, 8, 9], [0, 7, 8, 9], [2, 3, 4, 5, 6]]
def lv : Nat → List Nat := lvOf lvs
noncomputable def code : Code := bodyOf Tryz.f143
noncomputable def fe : FE := ⟨Tryz.f143, code, lv⟩
theorem ok (w0 : Base) : FOK (cx w0) normal_ranged.id fe := ⟨Tryz.func143, by kernel_rfl, by kernel_rfl⟩
end normal_ranged
namespace normal_place
def lvs : List (List Nat) := [[0, 1], [0, 1], [0, 1], [0, 1], [0, 1], [0, 6], [0], [0], [4], [0], [0], [0], [4]]
def lv : Nat → List Nat := lvOf lvs
noncomputable def code : Code := bodyOf Tryz.f144
noncomputable def fe : FE := ⟨Tryz.f144, code, lv⟩
theorem ok (w0 : Base) : FOK (cx w0) normal_place.id fe := ⟨Tryz.func144, by kernel_rfl, by kernel_rfl⟩
end normal_place
namespace normal_number
def lvs : List (List Nat) := [[0], [0], [0], [0], [0, 5, 6], [0, 5, 6], [0, 5, 6], [0, 5, 6], [0, 5, 6], [0, 5, 6], [0, 5, 6, 22], [0, 5, 6], [0, 5, 6], [0, 5, 6], [0, 5, 6], [0, 5, 6], [0, 5, 6], [0, 5, 6], [0, 5, 6], [2, 3, 4]]
def lv : Nat → List Nat := lvOf lvs
noncomputable def code : Code := bodyOf Tryz.f168
noncomputable def fe : FE := ⟨Tryz.f168, code, lv⟩
theorem ok (w0 : Base) : FOK (cx w0) normal_number.id fe := ⟨Tryz.func168, by kernel_rfl, by kernel_rfl⟩
end normal_number
namespace unified_Parse
def lvs : List (List Nat) := [[0], [0], [0, 2, 3], [0, 2, 3], [0, 2, 3], [0, 2, 3, 19], [2, 3], [2, 3], [2, 3, 4, 5, 6, 7], [0, 2, 3], [0, 2, 3], [0, 2, 3], [0, 2, 3, 8], [0, 2, 3, 8], [0, 2, 3, 8], [0, 2, 3, 8, 30], [0, 2, 3, 8], [0, 2, 3, 8], [0, 2, 3, 8], [0, 2, 3, 8], [0, 2, 3, 9], [0, 2, 3, 9], [0, 2, 3, 9, 10, 11, 12, 13], [0, 2, 3, 9, 10, 11, 12, 13], [0, 2, 3, 9, 10, 11, 12, 13], [0, 2, 3, 9, 10, 11, 12, 13, 45], [2, 3, 10, 11, 13], [2, 3, 10, 11, 13], [2, 3, 4, 5, 6, 7], [0, 2, 3, 9, 10, 11, 12], [0, 2, 3, 9, 10, 11, 12], [0, 2, 3, 9, 10, 11, 12], [0, 2, 3, 9, 10, 11, 12, 14], [0, 2, 3, 9, 10, 11, 12, 14], [0, 2, 3, 9, 10, 11, 12, 14], [0, 2, 3, 10, 11, 12, 14, 66, 67, 68], [0, 2, 3, 10, 11, 12, 14, 66, 67, 68], [0, 2, 3, 10, 11, 12, 14, 66, 67, 68], [0, 2, 3, 10, 11, 12, 14, 66, 67, 68], [0, 2, 3, 10, 11, 12, 14, 66, 67, 68, 69], [0, 2, 3, 10, 11, 12, 14, 66, 67, 68, 69], [0, 2, 3, 10, 11, 12, 14, 66, 67, 68], [0, 2, 3, 10, 11, 12, 14], [0, 2, 3, 10, 11, 12, 14, 66, 67, 68], [0, 2, 3, 10, 11, 12, 14, 66, 67, 68], [0, 2, 3, 10, 11, 12, 14, 66, 67, 68], [0, 2, 3, 10, 11, 12, 14, 66, 67, 68], [0, 2, 3, 10, 11, 12, 14, 16, 66, 67, 68], [0, 2, 3, 10, 11, 12, 14, 66, 67, 68], [0, 2, 3, 10, 11, 12, 14], [0, 2, 3, 10, 11, 12, 14], [2, 3, 4, 5, 6, 7]]
def lv : Nat → List Nat := lvOf lvs
noncomputable def code : Code := bodyOf Tryz.f26
noncomputable def fe : FE := ⟨Tryz.f26, code, lv⟩
theorem ok (w0 : Base) : FOK (cx w0) unified_Parse.id fe := ⟨Tryz.func26, by kernel_rfl, by kernel_rfl⟩
end unified_Parse
namespace unified_reader_read
def lvs : List (List Nat) := [[0], [0], [0, 2, 3], [0, 2, 3], [0, 2, 3, 6], [0, 2, 3, 6], [0, 2, 3, 6, 7, 8], [0, 2, 3, 6, 7, 8], [0, 2, 3, 6, 7, 8], [0, 2, 3, 6, 7, 8, 19], [2, 3, 6, 8], [2, 3, 6, 8], [2, 3, 4, 5], [0, 2, 3, 6, 7], [0, 2, 3, 6, 7], [0, 2, 3, 6, 7], [0, 2, 3, 6, 7, 8, 9], [0, 2, 3, 6, 7, 8, 9], [0, 2, 3, 6, 7, 8, 9], [0, 2, 3, 6, 7, 8, 9, 29], [2, 3, 6, 8], [2, 3, 6, 8], [2, 3, 4, 5], [0, 2, 3, 6, 7, 9], [0, 2, 3, 6, 7, 9], [0, 2, 3, 6, 7, 9], [0, 2, 3, 6, 7, 9, 10], [0, 2, 3, 6, 7, 9, 10], [0, 2, 3, 6, 7, 9, 10], [0, 2, 3, 6, 7, 9, 10], [0, 2, 3, 6, 7, 9, 10], [0, 2, 3, 6, 7, 9, 10], [0, 2, 3, 6, 7, 9, 10, 55], [0, 2, 3, 6, 7, 9, 10], [0, 2, 3, 6, 7, 9, 10], [0, 2, 3, 6, 7, 9, 10], [0, 2, 3, 6, 7, 9, 10], [0, 2, 3, 6, 7, 9, 10], [0, 2, 3, 6, 7, 9, 10, 11, 12], [0, 2, 3, 6, 7, 9, 10, 11, 12], [0, 2, 3, 6, 7, 9, 10, 11, 12], [0, 2, 3, 6, 7, 9, 10, 11, 12, 63], [2, 3, 6, 12], [2, 3, 6, 12], [2, 3, 4, 5], [0, 2, 3, 6, 7, 9, 10, 11], [0, 2, 3, 6, 7, 9, 10, 11], [0, 2, 3, 6, 7, 9, 10], [0, 2, 3, 6, 7, 9, 10], [0, 2, 3, 6, 7, 9, 10], [0, 2, 3, 6, 7, 9, 10, 73], [0, 2, 3, 6], [0, 2, 3, 6], [2, 3, 4, 5], [2, 3, 7, 9, 10], [2, 3, 7, 9, 10], [2, 3, 7, 9, 10], [2, 3, 4, 5]]
def lv : Nat → List Nat := lvOf lvs
noncomputable def code : Code := bodyOf Tryz.f61
noncomputable def fe : FE := ⟨Tryz.f61, code, lv⟩
theorem ok (w0 : Base) : FOK (cx w0) unified_reader_read.id fe := ⟨Tryz.func61, by kernel_rfl, by kernel_rfl⟩
end unified_reader_read
namespace unified_reader_name
def lvs : List (List Nat) := [[0, 1], [0, 1], [0, 1, 4], [0, 1, 4], [0, 1, 4, 6], [0, 1, 4, 6], [0, 1, 4, 6], [0, 1, 4, 6, 40], [4, 6], [4, 6], [4, 5], [0, 1, 4, 6], [0, 1, 4, 6], [0, 1, 4, 6], [0, 4, 6, 7, 8, 9], [0, 4, 6, 7, 8, 9], [0, 4, 6, 7, 8, 9], [0, 4, 6, 7, 8, 72], [4, 6], [4, 6], [4, 5], [0, 4, 7, 8], [0, 4, 7, 8], [0, 4, 7, 8], [4, 7, 8], [4, 7, 8], [4, 5]]
def lv : Nat → List Nat := lvOf lvs
noncomputable def code : Code := bodyOf Tryz.f94
noncomputable def fe : FE := ⟨Tryz.f94, code, lv⟩
theorem ok (w0 : Base) : FOK (cx w0) unified_reader_name.id fe := ⟨Tryz.func94, by kernel_rfl, by kernel_rfl⟩
end unified_reader_name
namespace unified_reader_hunk
def lvs : List (List Nat) := [[0, 1], [0, 1], [0, 1, 4], [0, 1, 4], [0, 1, 4, 6], [0, 1, 4, 6], [0, 1, 4, 6, 7, 8], [0, 1, 4, 6, 7, 8], [0, 1, 4, 6, 7, 8], [0, 1, 4, 6, 7, 27], [4, 6, 7], [4, 6, 7], [4, 5], [0, 1, 4, 6, 7], [0, 1, 4, 6, 7], [0, 1, 4, 6, 7], [0, 1, 4, 6, 7], [0, 1, 4, 6, 7], [0, 1, 4, 6, 7], [1, 4, 6, 7, 9], [1, 4, 6, 7, 9], [1, 4, 6, 7, 9, 42], [4, 7, 9], [4, 7, 9], [4, 5], [1, 4, 6, 7], [1, 4, 6, 7], [1, 4, 6, 7], [1, 4, 6, 7], [1, 4, 6, 7], [1, 4, 6, 7, 45], [4, 6, 7], [4, 6, 7], [4, 5], [1, 4, 6, 7], [1, 4, 6, 7], [4, 6, 7, 53], [4, 6, 7], [4, 6, 7], [4, 5], [4, 7], [4, 7], [4, 7], [4, 5]]
def lv : Nat → List Nat := lvOf lvs
noncomputable def code : Code := bodyOf Tryz.f95
noncomputable def fe : FE := ⟨Tryz.f95, code, lv⟩
theorem ok (w0 : Base) : FOK (cx w0) unified_reader_hunk.id fe := ⟨Tryz.func95, by kernel_rfl, by kernel_rfl⟩
end unified_reader_hunk
namespace unified_first
def lvs : List (List Nat) := [[0], [0], [0, 2], [0, 2], [0, 2, 4], [0, 2, 4], [0, 2, 4, 5], [0, 2, 4, 5], [0, 2, 4, 5], [0, 2, 4, 5, 11], [0, 2, 4], [0, 2, 4, 5], [0, 2, 4, 5], [0, 2, 4, 5], [0, 2, 4, 5], [0, 2, 4, 5, 21], [0, 2, 4], [0, 2, 4, 5], [0, 2, 4, 5], [0, 2, 4, 5], [0, 2, 4, 5], [0, 2, 4, 5, 27], [0, 2, 4], [0, 2, 4, 5], [0, 2, 4, 5], [0, 2, 4, 5], [0, 2, 4, 5], [0, 2, 4, 5, 37], [0, 2, 4], [0, 2, 4, 5], [0, 2, 4, 5], [0, 2, 4, 5], [0, 2, 4, 5], [0, 2, 4, 53], [2, 4], [2, 4], [2, 3], [0, 2, 4], [0, 2, 4], [0, 2, 4], [2, 4], [2, 4], [2, 3]]
def lv : Nat → List Nat := lvOf lvs
noncomputable def code : Code := bodyOf Tryz.f134
noncomputable def fe : FE := ⟨Tryz.f134, code, lv⟩
theorem ok (w0 : Base) : FOK (cx w0) unified_first.id fe := ⟨Tryz.func134, by kernel_rfl, by kernel_rfl⟩
end unified_first
namespace unified_reader_rows
def lvs : List (List Nat) := [[0, 1], [0, 1], [0, 1], [0, 1], [0, 1, 5, 6], [0, 1, 5, 6], [0, 1, 5, 6, 7], [0, 1, 5, 6, 7], [0, 1, 5, 6, 7], [0, 1, 5, 6, 7], [0, 1, 5, 6, 7], [0, 1, 5, 6, 7, 8], [0, 1, 5, 6, 7, 8], [0, 1, 5, 6, 7, 8], [0, 1, 5, 6, 7, 8, 41], [0, 1, 5, 6, 7, 8], [0, 1, 5, 6, 7, 8], [0, 1, 5, 6, 7, 8], [0, 1, 5, 6, 8, 43], [8], [8], [4], [0, 1, 5, 6], [0, 1, 5, 6], [0, 1, 5, 6], [0, 1, 5, 6, 9], [0, 1, 5, 6, 9], [0, 1, 5, 6], [0, 1, 5, 6], [0, 1, 5, 6, 7], [0, 1, 5, 6, 7], [0, 1, 5, 6, 7], [0, 1, 5, 6, 8], [0, 1, 5, 6, 8], [0, 1, 5, 6, 8], [0, 1, 5, 6, 8], [0, 1, 5, 6, 8, 84], [], [], [4], [0, 1, 5, 6, 8], [0, 1, 5, 6, 8], [0, 1, 5, 6, 8], [0, 1, 5, 6, 8], [0, 1, 5, 6, 8, 94], [8], [8], [4], [0, 1, 5, 6, 8], [0, 1, 5, 6, 8], [0, 1, 5, 6, 8], [0, 1, 5, 6, 8, 10], [0, 1, 5, 6, 8, 10], [0, 1, 5, 6, 8, 10, 11], [0, 1, 5, 6, 8, 10, 11], [0, 1, 5, 6, 8, 10, 11], [0, 1, 5, 6, 8, 11, 110], [0, 1, 5, 6, 8, 11, 110], [0, 1, 5, 6, 8, 11, 110], [0, 1, 5, 6, 8, 11, 110, 112], [0, 1, 5, 6, 8, 11], [0, 1, 5, 6, 8, 11, 110], [0, 1, 5, 6, 8, 11, 110], [0, 1, 5, 6, 8, 11, 110, 115], [0, 1, 5, 6, 8, 11], [0, 1, 5, 6, 8, 11, 110], [0, 1, 5, 6, 8, 11, 110], [0, 1, 5, 6, 8, 11, 110, 118], [0, 1, 5, 6, 8, 11], [0, 1, 5, 6, 8, 11, 110], [0, 1, 5, 6, 8, 11, 110], [0, 1, 5, 6, 8, 11, 121], [0, 1, 5, 6, 8, 11], [8], [8], [4], [0, 1, 5, 6, 8, 11], [0, 1, 5, 6, 8, 11], [0, 1, 5, 6, 8, 11], [0, 1, 5, 6, 8, 11, 126], [0, 1, 5, 6, 8, 11], [0, 1, 5, 6, 8, 11], [0, 1, 5, 6, 8, 11], [0, 1, 5, 6, 8, 11], [0, 1, 5, 6, 8, 11], [0, 1, 5, 6, 8, 11, 131], [0, 1, 5, 6, 8, 11], [0, 1, 5, 6, 8, 11], [0, 1, 5, 6, 8, 11], [0, 1, 5, 6, 8, 11], [0, 1, 5, 6, 8, 11], [0, 1, 5, 6, 8, 11, 147], [8], [8], [4], [0, 1, 5, 6, 11], [0, 1, 5, 6, 11], [0, 1, 5, 6, 11], [0, 1, 5, 6], [0, 1, 5, 6], [0, 1, 5, 6, 7]]
def lv : Nat → List Nat := lvOf lvs
noncomputable def code : Code := bodyOf Tryz.f135
noncomputable def fe : FE := ⟨Tryz.f135, code, lv⟩
theorem ok (w0 : Base) : FOK (cx w0) unified_reader_rows.id fe := ⟨Tryz.func135, by kernel_rfl, by kernel_rfl⟩
end unified_reader_rows
namespace unified_ranged
def lvs : List (List Nat) := [[0], [0], [0], [0], [0, 6, 7], [0, 6, 7], [0, 6, 7], [0, 6, 7, 21], [0, 6, 7], [0, 6, 7], [2, 3, 4, 5], [0, 6], [0, 6], [0, 6], [0, 6, 7, 8], [0, 6, 7, 8], [2, 3, 4, 5]]
def lv : Nat → List Nat := lvOf lvs
noncomputable def code : Code := bodyOf Tryz.f164
noncomputable def fe : FE := ⟨Tryz.f164, code, lv⟩
theorem ok (w0 : Base) : FOK (cx w0) unified_ranged.id fe := ⟨Tryz.func164, by kernel_rfl, by kernel_rfl⟩
end unified_ranged
namespace unified_number
def lvs : List (List Nat) := [[0], [0], [0], [0], [0, 5, 6], [0, 5, 6], [0, 5, 6], [0, 5, 6], [0, 5, 6], [0, 5, 6], [0, 5, 6, 22], [0, 5, 6], [0, 5, 6], [0, 5, 6], [0, 5, 6], [0, 5, 6], [0, 5, 6], [0, 5, 6], [0, 5, 6], [2, 3, 4]]
def lv : Nat → List Nat := lvOf lvs
noncomputable def code : Code := bodyOf Tryz.f185
noncomputable def fe : FE := ⟨Tryz.f185, code, lv⟩
theorem ok (w0 : Base) : FOK (cx w0) unified_number.id fe := ⟨Tryz.func185, by kernel_rfl, by kernel_rfl⟩
end unified_number
namespace unified_follows
def lvs : List (List Nat) := [[0, 1], [0, 1], [2, 3], [2, 3], [4]]
def lv : Nat → List Nat := lvOf lvs
noncomputable def code : Code := bodyOf Tryz.f136
noncomputable def fe : FE := ⟨Tryz.f136, code, lv⟩
theorem ok (w0 : Base) : FOK (cx w0) unified_follows.id fe := ⟨Tryz.func136, by kernel_rfl, by kernel_rfl⟩
end unified_follows
namespace strings_trimLeftByte
def lvs : List (List Nat) := [[0, 1], [0, 1], [0, 1], [0, 1], [0, 1], [0, 1], [0, 1], [0, 1], [0, 1, 13], [0, 1], [0], [0, 1], [0, 1], [0], [0], [4]]
def lv : Nat → List Nat := lvOf lvs
noncomputable def code : Code := bodyOf Tryz.f109
noncomputable def fe : FE := ⟨Tryz.f109, code, lv⟩
theorem ok (w0 : Base) : FOK (cx w0) strings_trimLeftByte.id fe := ⟨Tryz.func109, by kernel_rfl, by kernel_rfl⟩
end strings_trimLeftByte
namespace strings_Contains
def lvs : List (List Nat) := [[0, 1], [0, 1], [0, 1], [0, 1], [4]]
def lv : Nat → List Nat := lvOf lvs
noncomputable def code : Code := bodyOf Tryz.f92
noncomputable def fe : FE := ⟨Tryz.f92, code, lv⟩
theorem ok (w0 : Base) : FOK (cx w0) strings_Contains.id fe := ⟨Tryz.func92, by kernel_rfl, by kernel_rfl⟩
end strings_Contains
namespace strings_Index
def lvs : List (List Nat) := [[0, 1], [0, 1], [0, 1], [0, 1], [4]]
def lv : Nat → List Nat := lvOf lvs
noncomputable def code : Code := bodyOf Tryz.f132
noncomputable def fe : FE := ⟨Tryz.f132, code, lv⟩
theorem ok (w0 : Base) : FOK (cx w0) strings_Index.id fe := ⟨Tryz.func132, by kernel_rfl, by kernel_rfl⟩
end strings_Index
namespace stringslite_Index
def lvs : List (List Nat) := [[0, 1], [0, 1], [0, 1], [0, 1], [0, 1, 5], [0, 1, 5], [0, 1, 5], [0, 1, 5], [0, 1, 5, 16], [], [], [4], [0, 1, 5], [0, 1, 5], [0, 1, 5, 24], [0, 1], [0, 1], [4], [0, 1, 5], [0, 1, 5], [0, 1, 5, 31], [], [], [4], [0, 1, 5], [0, 1, 5], [0, 1, 5, 36], [0, 1], [0, 1], [4], [0, 1, 5], [0, 1, 5], [0, 1, 5], [0, 1, 5, 6], [0, 1, 5, 6], [0, 1, 5, 6, 7], [0, 1, 5, 6, 7], [0, 1, 5, 6, 7, 8], [0, 1, 5, 6, 7, 8], [0, 1, 5, 6, 7, 8, 9], [0, 1, 5, 6, 7, 8, 9], [0, 1, 5, 6, 7, 8, 9, 10], [0, 1, 5, 6, 7, 8, 9, 10], [0, 1, 5, 6, 7, 8, 9, 10], [0, 1, 5, 6, 7, 8, 9, 10], [0, 1, 5, 6, 7, 8, 9, 10], [0, 1, 5, 6, 7, 8, 9, 10], [0, 1, 5, 6, 7, 8, 9, 10, 59], [0, 1, 5, 6, 7, 8, 9, 10], [], [0, 1, 5, 6, 7, 8, 9, 10], [0, 1, 5, 6, 7, 8, 9, 10], [0, 1, 5, 6, 7, 8, 9, 10], [0, 1, 5, 6, 7, 8, 9, 10], [0, 1, 5, 6, 7, 8, 9, 10, 64], [0, 1, 5, 6, 7, 8, 9, 10], [0, 1, 5, 6, 7, 8, 9, 10], [0, 1, 5, 6, 7, 8, 9, 10, 11], [0, 1, 5, 6, 7, 8, 9, 10, 11], [0, 1, 5, 6, 7, 8, 9, 10, 11], [0, 1, 5, 6, 7, 8, 9, 10, 11, 73], [], [], [4], [0, 1, 5, 6, 7, 8, 9, 10, 11], [0, 1, 5, 6, 7, 8, 9, 10, 11], [0, 1, 5, 6, 7, 8, 9, 10], [0, 1, 5, 6, 7, 8, 9, 10], [0, 1, 5, 6, 7, 8, 9, 10], [0, 1, 5, 6, 7, 8, 9, 10], [0, 1, 5, 6, 7, 8, 9, 10, 93], [8], [8], [4], [0, 1, 5, 6, 7, 8, 9, 10], [0, 1, 5, 6, 7, 8, 9, 10], [0, 1, 5, 6, 7, 8, 9, 10], [0, 1, 5, 6, 7, 8, 9, 10], [0, 1, 5, 6, 7, 8, 9, 10], [0, 1, 5, 6, 7, 8, 9, 10], [0, 1, 5, 6, 7, 8, 9, 10], [0, 1, 5, 6, 7, 8, 9, 10, 107], [0, 1, 8], [0, 1, 8], [8, 12], [8, 12], [8, 12], [8, 12, 114], [8, 12], [8, 12], [4], [], [], [], [4], [0, 1, 5, 6, 7, 8, 9, 10], [0, 1, 5, 6, 7, 8, 9, 10], [0, 1, 5, 6, 7, 8, 9, 10, 132], [0, 1, 8], [0, 1, 8], [8, 13], [8, 13], [8, 13], [8, 13, 139], [], [], [4], [8, 13], [8, 13], [8, 13], [4], [0, 1, 5, 6, 7, 8, 9, 10], [], [], [4]]
def lv : Nat → List Nat := lvOf lvs
noncomputable def code : Code := bodyOf Tryz.f161
noncomputable def fe : FE := ⟨Tryz.f161, code, lv⟩
theorem ok (w0 : Base) : FOK (cx w0) stringslite_Index.id fe := ⟨Tryz.func161, by kernel_rfl, by kernel_rfl⟩
end stringslite_Index
namespace stringslite_IndexByte
def lvs : List (List Nat) := [[0, 1], [0, 1], [0, 1], [0, 1], [4]]
def lv : Nat → List Nat := lvOf lvs
noncomputable def code : Code := bodyOf Tryz.f88
noncomputable def fe : FE := ⟨Tryz.f88, code, lv⟩
theorem ok (w0 : Base) : FOK (cx w0) stringslite_IndexByte.id fe := ⟨Tryz.func88, by kernel_rfl, by kernel_rfl⟩
end stringslite_IndexByte
namespace strconv_Atoi
def lvs : List (List Nat) := [[0], [0], [0], [0], [0, 4, 5], [0, 4, 5], [0, 4, 5], [0, 4, 5, 12], [0, 4, 5], [0, 4, 5], [2, 3], [4], [4], [4], [2, 3]]
def lv : Nat → List Nat := lvOf lvs
noncomputable def code : Code := bodyOf Tryz.f124
noncomputable def fe : FE := ⟨Tryz.f124, code, lv⟩
theorem ok (w0 : Base) : FOK (cx w0) strconv_Atoi.id fe := ⟨Tryz.func124, by kernel_rfl, by kernel_rfl⟩
end strconv_Atoi
namespace internal_strconv_Atoi
def lvs : List (List Nat) := [[0], [0], [0], [0], [0, 4], [0, 4], [0, 4], [0, 30], [0], [0], [0, 5], [0, 5], [0, 5], [0, 5, 39], [0, 5], [0, 5], [0, 5], [0, 5], [0, 5, 44], [], [], [2, 3], [0, 5], [0, 5], [0, 5], [0, 5], [0, 5, 6], [0, 5, 6], [0, 5, 6], [5, 6, 47, 48, 49], [5, 6, 47, 48, 49], [5, 6, 47, 48, 49], [5, 6, 47, 48, 49], [5, 6, 47, 48, 49, 50], [5, 6, 47, 48, 49, 50], [5, 6, 47, 48, 49], [5, 6], [5, 6, 47, 48, 49], [5, 6, 47, 48, 49], [5, 6, 47, 48, 49], [5, 6, 47, 48, 49], [5, 6, 8, 47, 48, 49], [5, 6, 8, 47, 48, 49], [5, 6, 8, 47, 48, 49], [5, 6, 8, 47, 48, 49], [5, 6, 8, 47, 48, 49], [5, 6, 8, 47, 48, 49, 56], [], [], [2, 3], [5, 6, 8, 47, 48, 49], [5, 6, 8, 47, 48, 49], [5, 6, 47, 48, 49], [5, 6], [5, 6], [5, 6], [6, 66], [6], [6], [6], [6], [2, 3], [0], [0], [0], [9, 10], [9, 10], [2, 3]]
def lv : Nat → List Nat := lvOf lvs
noncomputable def code : Code := bodyOf Tryz.f156
noncomputable def fe : FE := ⟨Tryz.f156, code, lv⟩
theorem ok (w0 : Base) : FOK (cx w0) internal_strconv_Atoi.id fe := ⟨Tryz.func156, by kernel_rfl, by kernel_rfl⟩
end internal_strconv_Atoi
namespace strings_Join
end strings_Join
namespace strings_Count
def lvs : List (List Nat) := [[0, 1], [0, 1], [0, 1], [0, 1], [0, 1], [0, 1, 9], [0], [0], [4], [0, 1], [0, 1], [0, 1], [0, 1], [0, 1, 15], [0, 1], [0, 1], [4], [0, 1], [0, 1], [0, 1], [0, 1, 5], [0, 1, 5], [0, 1, 5], [0, 1, 5], [0, 1, 5], [0, 1, 5, 6], [0, 1, 5, 6], [0, 1, 5, 6], [0, 1, 5, 6, 24], [5], [5], [4], [0, 1, 5, 6], [0, 1, 5, 6], [0, 1, 5, 6], [0, 1, 5, 6]]
def lv : Nat → List Nat := lvOf lvs
noncomputable def code : Code := bodyOf Tryz.f133
noncomputable def fe : FE := ⟨Tryz.f133, code, lv⟩
theorem ok (w0 : Base) : FOK (cx w0) strings_Count.id fe := ⟨Tryz.func133, by kernel_rfl, by kernel_rfl⟩
end strings_Count
end Go.Sv
