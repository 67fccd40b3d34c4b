/- What the code of Go functions comes to over abstract stores, piece by piece; each equation by the kernel. Printed by a program of this session. -/
import Derived.Test.YthkedonibhajbaaDoorSvT
import Derived.KernelRfl
set_option linter.unusedVariables false
set_option maxRecDepth 100000
namespace Go.Sv
open Go Go.Proofs
/-! ### selvage/stat.sums -/
def stat_sums.lvs : List (List Nat) := [[0], [0], [0, 2, 3], [0, 2, 3], [0, 2, 3], [0, 2, 3, 9], [], [], [2, 3, 4], [0, 2, 3], [0, 2, 3], [0, 2, 3], [0, 2, 3], [2, 3, 10, 11, 12], [2, 3, 10, 11, 12], [2, 3, 10, 11, 12], [2, 3, 10, 11, 12], [2, 3, 10, 11, 12, 13], [2, 3, 10, 11, 12, 13], [2, 3, 10, 11, 12], [2, 3], [2, 3, 10, 11, 12], [2, 3, 10, 11, 12], [2, 3, 10, 11, 12], [2, 3, 10, 11, 12], [2, 3, 6, 10, 11, 12], [2, 3, 6, 10, 11, 12], [2, 3, 6, 10, 11, 12], [2, 3, 6, 10, 11, 12, 25], [], [], [2, 3, 4], [2, 3, 6, 10, 11, 12], [2, 3, 6, 10, 11, 12], [2, 3, 6, 10, 11, 12], [2, 3, 6, 10, 11, 12], [2, 3, 10, 11, 12], [2, 3], [2, 3], [2, 3, 4]]
def stat_sums.lv : Nat → List Nat := lvOf stat_sums.lvs
noncomputable def stat_sums.code : Code := bodyOf Tryd.f36
noncomputable def stat_sums.fe : FE := ⟨Tryd.f36, stat_sums.code, stat_sums.lv⟩
theorem stat_sums.ok (w0 : Base) : FOK (cx w0) stat_sums.id stat_sums.fe := ⟨Tryd.func36, by kernel_rfl, by kernel_rfl⟩
/-! ### selvage/stat.some -/
def stat_some.lvs : List (List Nat) := [[0, 1, 2], [0, 1, 2], [0, 1, 2], [0, 1, 2], [0, 1, 2], [0, 1, 2, 8], [0, 1, 2], [0, 1, 2], [0, 1, 2], [0, 1, 2], [6]]
def stat_some.lv : Nat → List Nat := lvOf stat_some.lvs
noncomputable def stat_some.code : Code := bodyOf Tryd.f37
noncomputable def stat_some.fe : FE := ⟨Tryd.f37, stat_some.code, stat_some.lv⟩
theorem stat_some.ok (w0 : Base) : FOK (cx w0) stat_some.id stat_some.fe := ⟨Tryd.func37, by kernel_rfl, by kernel_rfl⟩
/-! ### selvage/stat.Total -/
def stat_Total.lvs : List (List Nat) := [[0], [0], [0], [0], [0, 4, 5, 6], [0, 4, 5, 6], [0, 4, 5, 6], [0, 4, 5, 15], [], [], [2, 3], [0, 4, 5], [0, 4, 5], [0, 4, 5], [4, 5, 7], [4, 5, 7], [4, 5, 7], [4, 5, 7, 22], [4, 5, 7], [5, 7], [5, 7], [5, 7], [5, 7], [5, 7, 29], [5, 7], [7], [7], [7], [2, 3]]
def stat_Total.lv : Nat → List Nat := lvOf stat_Total.lvs
noncomputable def stat_Total.code : Code := bodyOf Tryd.f14
noncomputable def stat_Total.fe : FE := ⟨Tryd.f14, stat_Total.code, stat_Total.lv⟩
theorem stat_Total.ok (w0 : Base) : FOK (cx w0) stat_Total.id stat_Total.fe := ⟨Tryd.func14, by kernel_rfl, by kernel_rfl⟩
/-! ### selvage/quote.Needs -/
def quote_Needs.lvs : List (List Nat) := [[0], [0], [0], [0], [0], [0, 6], [], [], [2], [0], [0], [0], [0], [0, 8, 9], [0, 8, 9], [0, 8, 9], [0, 8, 9], [0, 8, 9, 10], [0, 8, 9, 10], [0, 8, 9], [], [0, 8, 9], [0, 8, 9], [0, 8, 9], [0, 8, 9], [0, 3, 8, 9], [0, 3, 8, 9], [0, 4, 8, 9], [0, 4, 8, 9], [0, 8, 9, 28], [], [], [2], [0, 8, 9], [0, 8, 9], [], [], [2]]
def quote_Needs.lv : Nat → List Nat := lvOf quote_Needs.lvs
noncomputable def quote_Needs.code : Code := bodyOf Tryd.f43
noncomputable def quote_Needs.fe : FE := ⟨Tryd.f43, quote_Needs.code, quote_Needs.lv⟩
theorem quote_Needs.ok (w0 : Base) : FOK (cx w0) quote_Needs.id quote_Needs.fe := ⟨Tryd.func43, by kernel_rfl, by kernel_rfl⟩
/-! ### selvage/quote.letter -/
def quote_letter.lvs : List (List Nat) := [[0], [0], [0], [0], [0], [0, 4], [0, 4], [0, 4], [0, 4], [0, 4], [0, 4, 6], [0, 4], [], [0, 4], [0, 4], [0, 4], [0, 4], [0, 4, 12], [4], [4], [2, 3], [0, 4], [0, 4], [], [], [2, 3]]
def quote_letter.lv : Nat → List Nat := lvOf quote_letter.lvs
noncomputable def quote_letter.code : Code := bodyOf Tryd.f44
noncomputable def quote_letter.fe : FE := ⟨Tryd.f44, quote_letter.code, quote_letter.lv⟩
theorem quote_letter.ok (w0 : Base) : FOK (cx w0) quote_letter.id quote_letter.fe := ⟨Tryd.func44, by kernel_rfl, by kernel_rfl⟩
/-! ### selvage/quote.Quote -/
def quote_Quote.lvs : List (List Nat) := [[0], [0], [0], [0], [0], [0, 10], [0], [0], [2], [0], [0], [0], [0, 3], [0, 3], [0, 3], [0, 3], [0, 3], [0, 3, 14, 15], [0, 3, 14, 15], [0, 3, 14, 15], [0, 3, 14, 15], [0, 3, 14, 15, 16], [0, 3, 14, 15, 16], [0, 3, 14, 15], [3], [0, 3, 14, 15], [0, 3, 14, 15], [0, 3, 14, 15], [0, 3, 14, 15], [0, 3, 4, 14, 15], [0, 3, 4, 14, 15], [0, 3, 5, 14, 15], [0, 3, 5, 14, 15], [0, 3, 5, 6, 7, 14, 15], [0, 3, 5, 6, 7, 14, 15], [0, 3, 5, 6, 7, 14, 15], [0, 3, 5, 6, 14, 15, 28], [0, 3, 6, 14, 15], [0, 3, 6, 14, 15], [0, 3, 6, 14, 15], [0, 3, 5, 14, 15], [0, 3, 5, 14, 15], [0, 3, 5, 14, 15, 33], [0, 3, 5, 14, 15], [0, 3, 5, 14, 15], [0, 3, 14, 15], [3], [3], [3], [3], [2]]
def quote_Quote.lv : Nat → List Nat := lvOf quote_Quote.lvs
noncomputable def quote_Quote.code : Code := bodyOf Tryd.f27
noncomputable def quote_Quote.fe : FE := ⟨Tryd.f27, quote_Quote.code, quote_Quote.lv⟩
theorem quote_Quote.ok (w0 : Base) : FOK (cx w0) quote_Quote.id quote_Quote.fe := ⟨Tryd.func27, by kernel_rfl, by kernel_rfl⟩
/-! ### selvage/stat.Table -/
def stat_Table.lvs : List (List Nat) := [[0, 1], [0, 1], [0, 1], [0, 1], [0, 1, 6, 7], [0, 1, 6, 7], [0, 1, 6, 7], [0, 1, 6, 7, 26], [7], [7], [4, 5], [0, 1, 6], [0, 1, 6], [0, 1, 6], [0, 1, 6], [0, 1, 6, 33], [], [], [4, 5], [0, 1, 6], [0, 1, 6], [0, 1, 6], [0, 1, 6, 8, 9], [0, 1, 6, 8, 9], [0, 1, 6, 8, 9], [0, 1, 6, 8, 9, 35, 36, 37], [0, 1, 6, 8, 9, 35, 36, 37], [0, 1, 6, 8, 9, 35, 36, 37], [0, 1, 6, 8, 9, 35, 36, 37], [0, 1, 6, 8, 9, 35, 36, 37, 38], [0, 1, 6, 8, 9, 35, 36, 37, 38], [0, 1, 6, 8, 9, 35, 36, 37], [0, 1, 6, 8, 9], [0, 1, 6, 8, 9, 35, 36, 37], [0, 1, 6, 8, 9, 35, 36, 37], [0, 1, 6, 8, 9, 35, 36, 37], [0, 1, 6, 8, 9, 35, 36, 37], [0, 1, 6, 8, 9, 11, 35, 36, 37], [0, 1, 6, 8, 9, 11, 35, 36, 37], [0, 1, 6, 8, 9, 11, 35, 36, 37], [0, 1, 6, 8, 9, 35, 36, 37], [0, 1, 6, 8, 9], [0, 1, 6, 8, 9], [0, 1, 6, 8, 9, 12], [0, 1, 6, 8, 9, 12], [0, 1, 6, 8, 9, 12], [0, 1, 6, 8, 9, 12], [0, 1, 6, 8, 9, 12, 13], [0, 1, 6, 8, 9, 12, 13], [0, 1, 6, 8, 9, 12, 13], [1, 6, 8, 9, 12, 13, 65, 66, 67], [1, 6, 8, 9, 12, 13, 65, 66, 67], [1, 6, 8, 9, 12, 13, 65, 66, 67], [1, 6, 8, 9, 12, 13, 65, 66, 67], [1, 6, 8, 9, 12, 13, 65, 66, 67, 68], [1, 6, 8, 9, 12, 13, 65, 66, 67, 68], [1, 6, 8, 9, 12, 13, 65, 66, 67], [6, 13], [1, 6, 8, 9, 12, 13, 65, 66, 67], [1, 6, 8, 9, 12, 13, 65, 66, 67], [1, 6, 8, 9, 12, 13, 65, 66, 67], [1, 6, 8, 9, 12, 13, 65, 66, 67], [1, 6, 8, 9, 12, 13, 15, 65, 66, 67], [1, 6, 8, 9, 12, 13, 15, 65, 66, 67], [1, 6, 8, 9, 12, 13, 15, 16, 17, 65, 66, 67], [1, 6, 8, 9, 12, 13, 15, 16, 17, 65, 66, 67], [1, 6, 8, 9, 12, 13, 15, 65, 66, 67], [1, 6, 8, 9, 12, 13, 15, 65, 66, 67], [1, 6, 8, 9, 12, 13, 15, 65, 66, 67], [1, 6, 8, 9, 12, 13, 18, 19, 65, 66, 67], [1, 6, 8, 9, 12, 13, 18, 19, 65, 66, 67], [1, 6, 8, 9, 12, 13, 18, 19, 65, 66, 67, 111], [1, 6, 8, 9, 12, 13, 18, 19, 65, 66, 67], [1, 6, 8, 9, 12, 13, 65, 66, 67], [1, 6, 8, 9, 12, 13, 65, 66, 67], [1, 6, 8, 9, 12, 13, 65, 66, 67], [6, 13], [6, 13], [4, 5]]
def stat_Table.lv : Nat → List Nat := lvOf stat_Table.lvs
noncomputable def stat_Table.code : Code := bodyOf Tryd.f11
noncomputable def stat_Table.fe : FE := ⟨Tryd.f11, stat_Table.code, stat_Table.lv⟩
theorem stat_Table.ok (w0 : Base) : FOK (cx w0) stat_Table.id stat_Table.fe := ⟨Tryd.func11, by kernel_rfl, by kernel_rfl⟩
/-! ### selvage/selvagelaw16.works -/
def selvagelaw16_works.lvs : List (List Nat) := [[], [], [], [], [1, 2], [1, 2], [1, 2, 3, 4], [1, 2, 3, 4], [1, 2, 3, 4, 6], [1, 2, 3, 4, 6], [0]]
def selvagelaw16_works.lv : Nat → List Nat := lvOf selvagelaw16_works.lvs
noncomputable def selvagelaw16_works.code : Code := bodyOf Tryd.f10
noncomputable def selvagelaw16_works.fe : FE := ⟨Tryd.f10, selvagelaw16_works.code, selvagelaw16_works.lv⟩
theorem selvagelaw16_works.ok (w0 : Base) : FOK (cx w0) selvagelaw16_works.id selvagelaw16_works.fe := ⟨Tryd.func10, by kernel_rfl, by kernel_rfl⟩
end Go.Sv
