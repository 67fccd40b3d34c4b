/- What the code of Go functions comes to over abstract stores, piece by piece; each equation by the kernel. Printed by a program of this session. -/
import Derived.Test.YtjonnhjaiiingaaGreatDoorSvT
import Derived.KernelRfl
set_option linter.unusedVariables false
set_option maxRecDepth 100000
namespace Go.Sv
open Go Go.Proofs
/-! ### selvage/unified.Parse -/
def unified_Parse.lvs : List (List Nat) := [[0], [0], [0, 2, 3], [0, 2, 3], [0, 2, 3], [0, 2, 3, 19], [2, 3], [2, 3], [2, 3, 4, 5, 6, 7], [0, 2, 3], [0, 2, 3], [0, 2, 3], [0, 2, 3, 8], [0, 2, 3, 8], [0, 2, 3, 8], [0, 2, 3, 8, 30], [0, 2, 3, 8], [0, 2, 3, 8], [0, 2, 3, 8], [0, 2, 3, 8], [0, 2, 3, 9], [0, 2, 3, 9], [0, 2, 3, 9, 10, 11, 12, 13], [0, 2, 3, 9, 10, 11, 12, 13], [0, 2, 3, 9, 10, 11, 12, 13], [0, 2, 3, 9, 10, 11, 12, 13, 45], [2, 3, 10, 11, 13], [2, 3, 10, 11, 13], [2, 3, 4, 5, 6, 7], [0, 2, 3, 9, 10, 11, 12], [0, 2, 3, 9, 10, 11, 12], [0, 2, 3, 9, 10, 11, 12], [0, 2, 3, 9, 10, 11, 12, 14], [0, 2, 3, 9, 10, 11, 12, 14], [0, 2, 3, 9, 10, 11, 12, 14], [0, 2, 3, 10, 11, 12, 14, 66, 67, 68], [0, 2, 3, 10, 11, 12, 14, 66, 67, 68], [0, 2, 3, 10, 11, 12, 14, 66, 67, 68], [0, 2, 3, 10, 11, 12, 14, 66, 67, 68], [0, 2, 3, 10, 11, 12, 14, 66, 67, 68, 69], [0, 2, 3, 10, 11, 12, 14, 66, 67, 68, 69], [0, 2, 3, 10, 11, 12, 14, 66, 67, 68], [0, 2, 3, 10, 11, 12, 14], [0, 2, 3, 10, 11, 12, 14, 66, 67, 68], [0, 2, 3, 10, 11, 12, 14, 66, 67, 68], [0, 2, 3, 10, 11, 12, 14, 66, 67, 68], [0, 2, 3, 10, 11, 12, 14, 66, 67, 68], [0, 2, 3, 10, 11, 12, 14, 16, 66, 67, 68], [0, 2, 3, 10, 11, 12, 14, 66, 67, 68], [0, 2, 3, 10, 11, 12, 14], [0, 2, 3, 10, 11, 12, 14], [2, 3, 4, 5, 6, 7]]
def unified_Parse.lv : Nat → List Nat := lvOf unified_Parse.lvs
noncomputable def unified_Parse.code : Code := bodyOf Tryz.f14
noncomputable def unified_Parse.fe : FE := ⟨Tryz.f14, unified_Parse.code, unified_Parse.lv⟩
theorem unified_Parse.ok (w0 : Base) : FOK (cx w0) unified_Parse.id unified_Parse.fe := ⟨Tryz.func14, by kernel_rfl, by kernel_rfl⟩
/-! ### selvage/lines.Split -/
def lines_Split.lvs : List (List Nat) := [[0], [0], [0], [0], [0, 3], [0, 3], [0, 3], [0, 3], [0, 3], [0, 3], [0, 3, 6], [0, 3], [3], [0, 3], [0, 3], [0, 3], [0, 3, 4], [0, 3, 4], [0, 3, 4], [0, 3, 4, 11], [0, 3], [0, 3, 4], [0, 3, 4], [0, 3, 4], [0, 3, 4], [3], [3], [2]]
def lines_Split.lv : Nat → List Nat := lvOf lines_Split.lvs
noncomputable def lines_Split.code : Code := bodyOf Tryz.f28
noncomputable def lines_Split.fe : FE := ⟨Tryz.f28, lines_Split.code, lines_Split.lv⟩
theorem lines_Split.ok (w0 : Base) : FOK (cx w0) lines_Split.id lines_Split.fe := ⟨Tryz.func28, by kernel_rfl, by kernel_rfl⟩
/-! ### (*selvage/unified.reader).read -/
def unified_reader_read.lvs : List (List Nat) := [[0], [0], [0, 2, 3], [0, 2, 3], [0, 2, 3, 6], [0, 2, 3, 6], [0, 2, 3, 6, 7, 8], [0, 2, 3, 6, 7, 8], [0, 2, 3, 6, 7, 8], [0, 2, 3, 6, 7, 8, 19], [2, 3, 6, 8], [2, 3, 6, 8], [2, 3, 4, 5], [0, 2, 3, 6, 7], [0, 2, 3, 6, 7], [0, 2, 3, 6, 7], [0, 2, 3, 6, 7, 8, 9], [0, 2, 3, 6, 7, 8, 9], [0, 2, 3, 6, 7, 8, 9], [0, 2, 3, 6, 7, 8, 9, 29], [2, 3, 6, 8], [2, 3, 6, 8], [2, 3, 4, 5], [0, 2, 3, 6, 7, 9], [0, 2, 3, 6, 7, 9], [0, 2, 3, 6, 7, 9], [0, 2, 3, 6, 7, 9, 10], [0, 2, 3, 6, 7, 9, 10], [0, 2, 3, 6, 7, 9, 10], [0, 2, 3, 6, 7, 9, 10], [0, 2, 3, 6, 7, 9, 10], [0, 2, 3, 6, 7, 9, 10], [0, 2, 3, 6, 7, 9, 10, 55], [0, 2, 3, 6, 7, 9, 10], [0, 2, 3, 6, 7, 9, 10], [0, 2, 3, 6, 7, 9, 10], [0, 2, 3, 6, 7, 9, 10], [0, 2, 3, 6, 7, 9, 10], [0, 2, 3, 6, 7, 9, 10, 11, 12], [0, 2, 3, 6, 7, 9, 10, 11, 12], [0, 2, 3, 6, 7, 9, 10, 11, 12], [0, 2, 3, 6, 7, 9, 10, 11, 12, 63], [2, 3, 6, 12], [2, 3, 6, 12], [2, 3, 4, 5], [0, 2, 3, 6, 7, 9, 10, 11], [0, 2, 3, 6, 7, 9, 10, 11], [0, 2, 3, 6, 7, 9, 10], [0, 2, 3, 6, 7, 9, 10], [0, 2, 3, 6, 7, 9, 10], [0, 2, 3, 6, 7, 9, 10, 73], [0, 2, 3, 6], [0, 2, 3, 6], [2, 3, 4, 5], [2, 3, 7, 9, 10], [2, 3, 7, 9, 10], [2, 3, 7, 9, 10], [2, 3, 4, 5]]
def unified_reader_read.lv : Nat → List Nat := lvOf unified_reader_read.lvs
noncomputable def unified_reader_read.code : Code := bodyOf Tryz.f29
noncomputable def unified_reader_read.fe : FE := ⟨Tryz.f29, unified_reader_read.code, unified_reader_read.lv⟩
theorem unified_reader_read.ok (w0 : Base) : FOK (cx w0) unified_reader_read.id unified_reader_read.fe := ⟨Tryz.func29, by kernel_rfl, by kernel_rfl⟩
/-! ### (*selvage/unified.reader).name -/
def unified_reader_name.lvs : List (List Nat) := [[0, 1], [0, 1], [0, 1, 4], [0, 1, 4], [0, 1, 4, 6], [0, 1, 4, 6], [0, 1, 4, 6], [0, 1, 4, 6, 40], [4, 6], [4, 6], [4, 5], [0, 1, 4, 6], [0, 1, 4, 6], [0, 1, 4, 6], [0, 4, 6, 7, 8, 9], [0, 4, 6, 7, 8, 9], [0, 4, 6, 7, 8, 9], [0, 4, 6, 7, 8, 72], [4, 6], [4, 6], [4, 5], [0, 4, 7, 8], [0, 4, 7, 8], [0, 4, 7, 8], [4, 7, 8], [4, 7, 8], [4, 5]]
def unified_reader_name.lv : Nat → List Nat := lvOf unified_reader_name.lvs
noncomputable def unified_reader_name.code : Code := bodyOf Tryz.f52
noncomputable def unified_reader_name.fe : FE := ⟨Tryz.f52, unified_reader_name.code, unified_reader_name.lv⟩
theorem unified_reader_name.ok (w0 : Base) : FOK (cx w0) unified_reader_name.id unified_reader_name.fe := ⟨Tryz.func52, by kernel_rfl, by kernel_rfl⟩
/-! ### (*selvage/unified.reader).hunk -/
def unified_reader_hunk.lvs : List (List Nat) := [[0, 1], [0, 1], [0, 1, 4], [0, 1, 4], [0, 1, 4, 6], [0, 1, 4, 6], [0, 1, 4, 6, 7, 8], [0, 1, 4, 6, 7, 8], [0, 1, 4, 6, 7, 8], [0, 1, 4, 6, 7, 27], [4, 6, 7], [4, 6, 7], [4, 5], [0, 1, 4, 6, 7], [0, 1, 4, 6, 7], [0, 1, 4, 6, 7], [0, 1, 4, 6, 7], [0, 1, 4, 6, 7], [0, 1, 4, 6, 7], [1, 4, 6, 7, 9], [1, 4, 6, 7, 9], [1, 4, 6, 7, 9, 42], [4, 7, 9], [4, 7, 9], [4, 5], [1, 4, 6, 7], [1, 4, 6, 7], [1, 4, 6, 7], [1, 4, 6, 7], [1, 4, 6, 7], [1, 4, 6, 7, 45], [4, 6, 7], [4, 6, 7], [4, 5], [1, 4, 6, 7], [1, 4, 6, 7], [4, 6, 7, 53], [4, 6, 7], [4, 6, 7], [4, 5], [4, 7], [4, 7], [4, 7], [4, 5]]
def unified_reader_hunk.lv : Nat → List Nat := lvOf unified_reader_hunk.lvs
noncomputable def unified_reader_hunk.code : Code := bodyOf Tryz.f54
noncomputable def unified_reader_hunk.fe : FE := ⟨Tryz.f54, unified_reader_hunk.code, unified_reader_hunk.lv⟩
theorem unified_reader_hunk.ok (w0 : Base) : FOK (cx w0) unified_reader_hunk.id unified_reader_hunk.fe := ⟨Tryz.func54, by kernel_rfl, by kernel_rfl⟩
/-! ### selvage/quote.Unquote -/
def quote_Unquote.lvs : List (List Nat) := [[0], [0], [0], [0], [0], [0, 16], [0], [0], [0, 5], [0, 5], [0, 5], [0, 5, 20], [0], [0, 5], [0, 5], [0, 5], [2, 3, 4], [0], [0], [0], [0, 6], [0, 6], [0, 6], [0, 6, 7], [0, 6, 7], [0, 6, 7], [0, 6, 7], [0, 6, 7], [0, 6, 7, 32], [0, 6, 7], [], [0, 6, 7], [0, 6, 7], [0, 6, 7], [0, 6, 7], [0, 6, 7, 8], [0, 6, 7, 8], [0, 6, 7, 8], [0, 6, 7, 8, 36], [0, 6, 7], [0, 6, 7], [2, 3, 4], [0, 6, 7, 8], [0, 6, 7, 8], [0, 6, 7, 8, 45], [], [], [2, 3, 4], [0, 6, 7, 8], [0, 6, 7, 8], [0, 6, 7, 8, 49], [0, 6, 7, 8], [0, 6, 7, 8], [0, 6, 7], [0, 6, 7], [0, 6, 7], [0, 6, 7], [0, 6, 7], [0, 6, 7], [0, 6, 7, 9], [0, 6, 7, 9], [0, 6, 7, 9], [0, 6, 7, 9, 63], [], [0, 6, 7, 9], [0, 6, 7, 9], [0, 6, 7, 9], [0, 6, 7, 9], [0, 6, 7, 9, 10, 11], [0, 6, 7, 9, 10, 11], [0, 6, 7, 9, 10, 70], [0, 6, 7, 10], [0, 6, 7, 10], [0, 6, 7], [0, 6, 7], [0, 6, 7], [0, 6, 7, 9], [0, 6, 7, 9], [0, 6, 7, 9], [0, 6, 7, 12, 13], [0, 6, 7, 12, 13], [0, 6, 7, 12, 13], [0, 6, 7, 12, 83], [], [], [2, 3, 4], [0, 6, 7, 12], [0, 6, 7, 12], [0, 6, 7, 12], [0, 6, 7], [], [], [2, 3, 4]]
def quote_Unquote.lv : Nat → List Nat := lvOf quote_Unquote.lvs
noncomputable def quote_Unquote.code : Code := bodyOf Tryz.f77
noncomputable def quote_Unquote.fe : FE := ⟨Tryz.f77, quote_Unquote.code, quote_Unquote.lv⟩
theorem quote_Unquote.ok (w0 : Base) : FOK (cx w0) quote_Unquote.id quote_Unquote.fe := ⟨Tryz.func77, by kernel_rfl, by kernel_rfl⟩
/-! ### selvage/unified.first -/
def unified_first.lvs : List (List Nat) := [[0], [0], [0, 2], [0, 2], [0, 2, 4], [0, 2, 4], [0, 2, 4, 5], [0, 2, 4, 5], [0, 2, 4, 5], [0, 2, 4, 5, 11], [0, 2, 4], [0, 2, 4, 5], [0, 2, 4, 5], [0, 2, 4, 5], [0, 2, 4, 5], [0, 2, 4, 5, 21], [0, 2, 4], [0, 2, 4, 5], [0, 2, 4, 5], [0, 2, 4, 5], [0, 2, 4, 5], [0, 2, 4, 5, 27], [0, 2, 4], [0, 2, 4, 5], [0, 2, 4, 5], [0, 2, 4, 5], [0, 2, 4, 5], [0, 2, 4, 5, 37], [0, 2, 4], [0, 2, 4, 5], [0, 2, 4, 5], [0, 2, 4, 5], [0, 2, 4, 5], [0, 2, 4, 53], [2, 4], [2, 4], [2, 3], [0, 2, 4], [0, 2, 4], [0, 2, 4], [2, 4], [2, 4], [2, 3]]
def unified_first.lv : Nat → List Nat := lvOf unified_first.lvs
noncomputable def unified_first.code : Code := bodyOf Tryz.f81
noncomputable def unified_first.fe : FE := ⟨Tryz.f81, unified_first.code, unified_first.lv⟩
theorem unified_first.ok (w0 : Base) : FOK (cx w0) unified_first.id unified_first.fe := ⟨Tryz.func81, by kernel_rfl, by kernel_rfl⟩
/-! ### (*selvage/unified.reader).rows -/
def unified_reader_rows.lvs : List (List Nat) := [[0, 1], [0, 1], [0, 1], [0, 1], [0, 1, 5, 6], [0, 1, 5, 6], [0, 1, 5, 6, 7], [0, 1, 5, 6, 7], [0, 1, 5, 6, 7], [0, 1, 5, 6, 7], [0, 1, 5, 6, 7], [0, 1, 5, 6, 7, 8], [0, 1, 5, 6, 7, 8], [0, 1, 5, 6, 7, 8], [0, 1, 5, 6, 7, 8, 41], [0, 1, 5, 6, 7, 8], [0, 1, 5, 6, 7, 8], [0, 1, 5, 6, 7, 8], [0, 1, 5, 6, 8, 43], [8], [8], [4], [0, 1, 5, 6], [0, 1, 5, 6], [0, 1, 5, 6], [0, 1, 5, 6, 9], [0, 1, 5, 6, 9], [0, 1, 5, 6], [0, 1, 5, 6], [0, 1, 5, 6, 7], [0, 1, 5, 6, 7], [0, 1, 5, 6, 7], [0, 1, 5, 6, 8], [0, 1, 5, 6, 8], [0, 1, 5, 6, 8], [0, 1, 5, 6, 8], [0, 1, 5, 6, 8, 84], [], [], [4], [0, 1, 5, 6, 8], [0, 1, 5, 6, 8], [0, 1, 5, 6, 8], [0, 1, 5, 6, 8], [0, 1, 5, 6, 8, 94], [8], [8], [4], [0, 1, 5, 6, 8], [0, 1, 5, 6, 8], [0, 1, 5, 6, 8], [0, 1, 5, 6, 8, 10], [0, 1, 5, 6, 8, 10], [0, 1, 5, 6, 8, 10, 11], [0, 1, 5, 6, 8, 10, 11], [0, 1, 5, 6, 8, 10, 11], [0, 1, 5, 6, 8, 11, 110], [0, 1, 5, 6, 8, 11, 110], [0, 1, 5, 6, 8, 11, 110], [0, 1, 5, 6, 8, 11, 110, 112], [0, 1, 5, 6, 8, 11], [0, 1, 5, 6, 8, 11, 110], [0, 1, 5, 6, 8, 11, 110], [0, 1, 5, 6, 8, 11, 110, 115], [0, 1, 5, 6, 8, 11], [0, 1, 5, 6, 8, 11, 110], [0, 1, 5, 6, 8, 11, 110], [0, 1, 5, 6, 8, 11, 110, 118], [0, 1, 5, 6, 8, 11], [0, 1, 5, 6, 8, 11, 110], [0, 1, 5, 6, 8, 11, 110], [0, 1, 5, 6, 8, 11, 121], [0, 1, 5, 6, 8, 11], [8], [8], [4], [0, 1, 5, 6, 8, 11], [0, 1, 5, 6, 8, 11], [0, 1, 5, 6, 8, 11], [0, 1, 5, 6, 8, 11, 126], [0, 1, 5, 6, 8, 11], [0, 1, 5, 6, 8, 11], [0, 1, 5, 6, 8, 11], [0, 1, 5, 6, 8, 11], [0, 1, 5, 6, 8, 11], [0, 1, 5, 6, 8, 11, 131], [0, 1, 5, 6, 8, 11], [0, 1, 5, 6, 8, 11], [0, 1, 5, 6, 8, 11], [0, 1, 5, 6, 8, 11], [0, 1, 5, 6, 8, 11], [0, 1, 5, 6, 8, 11, 147], [8], [8], [4], [0, 1, 5, 6, 11], [0, 1, 5, 6, 11], [0, 1, 5, 6, 11], [0, 1, 5, 6], [0, 1, 5, 6], [0, 1, 5, 6, 7]]
def unified_reader_rows.lv : Nat → List Nat := lvOf unified_reader_rows.lvs
noncomputable def unified_reader_rows.code : Code := bodyOf Tryz.f82
noncomputable def unified_reader_rows.fe : FE := ⟨Tryz.f82, unified_reader_rows.code, unified_reader_rows.lv⟩
theorem unified_reader_rows.ok (w0 : Base) : FOK (cx w0) unified_reader_rows.id unified_reader_rows.fe := ⟨Tryz.func82, by kernel_rfl, by kernel_rfl⟩
/-! ### selvage/quote.meant -/
def quote_meant.lvs : List (List Nat) := [[0], [0], [0], [0], [0], [0, 4], [0, 4], [0, 4], [0, 4], [0, 4], [0, 4, 6], [0, 4], [], [0, 4], [0, 4], [0, 4], [0, 4], [0, 4, 13], [4], [4], [2, 3], [0, 4], [0, 4], [], [], [2, 3]]
def quote_meant.lv : Nat → List Nat := lvOf quote_meant.lvs
noncomputable def quote_meant.code : Code := bodyOf Tryz.f90
noncomputable def quote_meant.fe : FE := ⟨Tryz.f90, quote_meant.code, quote_meant.lv⟩
theorem quote_meant.ok (w0 : Base) : FOK (cx w0) quote_meant.id quote_meant.fe := ⟨Tryz.func90, by kernel_rfl, by kernel_rfl⟩
/-! ### selvage/quote.octal -/
def quote_octal.lvs : List (List Nat) := [[0], [0], [0], [0], [0], [0, 13], [], [], [2, 3], [0], [0], [0], [0, 4], [0, 4], [0, 4], [0, 4, 14], [0, 4, 14], [0, 4, 14], [0, 4, 14], [0, 4, 14, 15], [0, 4, 14, 15], [0, 4, 14], [4], [0, 4, 14], [0, 4, 14], [0, 4, 14], [0, 4, 14], [0, 4, 5, 14], [0, 4, 5, 14], [0, 4, 5, 14], [0, 4, 5, 14, 26], [], [], [2, 3], [0, 4, 5, 14], [0, 4, 5, 14], [0, 4, 14], [4], [4], [2, 3]]
def quote_octal.lv : Nat → List Nat := lvOf quote_octal.lvs
noncomputable def quote_octal.code : Code := bodyOf Tryz.f91
noncomputable def quote_octal.fe : FE := ⟨Tryz.f91, quote_octal.code, quote_octal.lv⟩
theorem quote_octal.ok (w0 : Base) : FOK (cx w0) quote_octal.id quote_octal.fe := ⟨Tryz.func91, by kernel_rfl, by kernel_rfl⟩
/-! ### strings.CutPrefix -/
def strings_CutPrefix.lvs : List (List Nat) := [[0, 1], [0, 1], [0, 1], [0, 1], [4, 5]]
def strings_CutPrefix.lv : Nat → List Nat := lvOf strings_CutPrefix.lvs
noncomputable def strings_CutPrefix.code : Code := bodyOf Tryz.f94
noncomputable def strings_CutPrefix.fe : FE := ⟨Tryz.f94, strings_CutPrefix.code, strings_CutPrefix.lv⟩
theorem strings_CutPrefix.ok (w0 : Base) : FOK (cx w0) strings_CutPrefix.id strings_CutPrefix.fe := ⟨Tryz.func94, by kernel_rfl, by kernel_rfl⟩
/-! ### internal/stringslite.CutPrefix -/
def stringslite_CutPrefix.lvs : List (List Nat) := [[0, 1], [0, 1], [0, 1], [0, 1], [0, 1], [0, 1, 9], [0], [0], [4, 5], [0, 1], [0, 1], [0, 1], [4, 5]]
def stringslite_CutPrefix.lv : Nat → List Nat := lvOf stringslite_CutPrefix.lvs
noncomputable def stringslite_CutPrefix.code : Code := bodyOf Tryz.f105
noncomputable def stringslite_CutPrefix.fe : FE := ⟨Tryz.f105, stringslite_CutPrefix.code, stringslite_CutPrefix.lv⟩
theorem stringslite_CutPrefix.ok (w0 : Base) : FOK (cx w0) stringslite_CutPrefix.id stringslite_CutPrefix.fe := ⟨Tryz.func105, by kernel_rfl, by kernel_rfl⟩
/-! ### internal/stringslite.HasPrefix -/
def stringslite_HasPrefix.lvs : List (List Nat) := [[0, 1], [0, 1], [0, 1], [0, 1], [4]]
def stringslite_HasPrefix.lv : Nat → List Nat := lvOf stringslite_HasPrefix.lvs
noncomputable def stringslite_HasPrefix.code : Code := bodyOf Tryz.f80
noncomputable def stringslite_HasPrefix.fe : FE := ⟨Tryz.f80, stringslite_HasPrefix.code, stringslite_HasPrefix.lv⟩
theorem stringslite_HasPrefix.ok (w0 : Base) : FOK (cx w0) stringslite_HasPrefix.id stringslite_HasPrefix.fe := ⟨Tryz.func80, by kernel_rfl, by kernel_rfl⟩
/-! ### selvage/unified.ranged -/
def unified_ranged.lvs : List (List Nat) := [[0], [0], [0], [0], [0, 6, 7], [0, 6, 7], [0, 6, 7], [0, 6, 7, 21], [0, 6, 7], [0, 6, 7], [2, 3, 4, 5], [0, 6], [0, 6], [0, 6], [0, 6, 7, 8], [0, 6, 7, 8], [2, 3, 4, 5]]
def unified_ranged.lv : Nat → List Nat := lvOf unified_ranged.lvs
noncomputable def unified_ranged.code : Code := bodyOf Tryz.f95
noncomputable def unified_ranged.fe : FE := ⟨Tryz.f95, unified_ranged.code, unified_ranged.lv⟩
theorem unified_ranged.ok (w0 : Base) : FOK (cx w0) unified_ranged.id unified_ranged.fe := ⟨Tryz.func95, by kernel_rfl, by kernel_rfl⟩
/-! ### selvage/unified.number -/
def unified_number.lvs : List (List Nat) := [[0], [0], [0], [0], [0, 5, 6], [0, 5, 6], [0, 5, 6], [0, 5, 6], [0, 5, 6], [0, 5, 6], [0, 5, 6, 22], [0, 5, 6], [0, 5, 6], [0, 5, 6], [0, 5, 6], [0, 5, 6], [0, 5, 6], [0, 5, 6], [0, 5, 6], [2, 3, 4]]
def unified_number.lv : Nat → List Nat := lvOf unified_number.lvs
noncomputable def unified_number.code : Code := bodyOf Tryz.f106
noncomputable def unified_number.fe : FE := ⟨Tryz.f106, unified_number.code, unified_number.lv⟩
theorem unified_number.ok (w0 : Base) : FOK (cx w0) unified_number.id unified_number.fe := ⟨Tryz.func106, by kernel_rfl, by kernel_rfl⟩
/-! ### selvage/selvagelaw11.sure -/
def selvagelaw11_sure.lvs : List (List Nat) := [[], [], [], [], [1], [1], [1, 2, 3], [1, 2, 3], [1, 2, 3, 4, 5, 6, 7, 8, 9], [1, 2, 3, 4, 5, 6, 7, 8, 9], [1, 2, 3, 4, 5, 6, 7, 8, 9, 14, 15], [1, 2, 3, 4, 5, 6, 7, 8, 9, 14, 15], [0]]
def selvagelaw11_sure.lv : Nat → List Nat := lvOf selvagelaw11_sure.lvs
noncomputable def selvagelaw11_sure.code : Code := bodyOf Tryz.f13
noncomputable def selvagelaw11_sure.fe : FE := ⟨Tryz.f13, selvagelaw11_sure.code, selvagelaw11_sure.lv⟩
theorem selvagelaw11_sure.ok (w0 : Base) : FOK (cx w0) selvagelaw11_sure.id selvagelaw11_sure.fe := ⟨Tryz.func13, by kernel_rfl, by kernel_rfl⟩
end Go.Sv
