/- What the code of Go functions comes to over abstract stores, piece by piece; each equation by the kernel. Printed by a program of this session. -/
import Derived.Test.YthkedonibhajbaaGreatDoorSvT
import Derived.KernelRfl
set_option linter.unusedVariables false
set_option maxRecDepth 100000
namespace Go.Sv
open Go Go.Proofs
/-! ### selvage/quote.Needs -/
def quote_Needs.lvs : List (List Nat) := [[0], [0], [0], [0], [0], [0, 6], [], [], [2], [0], [0], [0], [0], [0, 8, 9], [0, 8, 9], [0, 8, 9], [0, 8, 9], [0, 8, 9, 10], [0, 8, 9, 10], [0, 8, 9], [], [0, 8, 9], [0, 8, 9], [0, 8, 9], [0, 8, 9], [0, 3, 8, 9], [0, 3, 8, 9], [0, 4, 8, 9], [0, 4, 8, 9], [0, 8, 9, 28], [], [], [2], [0, 8, 9], [0, 8, 9], [], [], [2]]
def quote_Needs.lv : Nat → List Nat := lvOf quote_Needs.lvs
noncomputable def quote_Needs.code : Code := bodyOf Tryz.f40
noncomputable def quote_Needs.fe : FE := ⟨Tryz.f40, quote_Needs.code, quote_Needs.lv⟩
theorem quote_Needs.ok (w0 : Base) : FOK (cx w0) quote_Needs.id quote_Needs.fe := ⟨Tryz.func40, by kernel_rfl, by kernel_rfl⟩
/-! ### selvage/quote.letter -/
def quote_letter.lvs : List (List Nat) := [[0], [0], [0], [0], [0], [0, 4], [0, 4], [0, 4], [0, 4], [0, 4], [0, 4, 6], [0, 4], [], [0, 4], [0, 4], [0, 4], [0, 4], [0, 4, 12], [4], [4], [2, 3], [0, 4], [0, 4], [], [], [2, 3]]
def quote_letter.lv : Nat → List Nat := lvOf quote_letter.lvs
noncomputable def quote_letter.code : Code := bodyOf Tryz.f41
noncomputable def quote_letter.fe : FE := ⟨Tryz.f41, quote_letter.code, quote_letter.lv⟩
theorem quote_letter.ok (w0 : Base) : FOK (cx w0) quote_letter.id quote_letter.fe := ⟨Tryz.func41, by kernel_rfl, by kernel_rfl⟩
/-! ### selvage/quote.Quote -/
def quote_Quote.lvs : List (List Nat) := [[0], [0], [0], [0], [0], [0, 10], [0], [0], [2], [0], [0], [0], [0, 3], [0, 3], [0, 3], [0, 3], [0, 3], [0, 3, 14, 15], [0, 3, 14, 15], [0, 3, 14, 15], [0, 3, 14, 15], [0, 3, 14, 15, 16], [0, 3, 14, 15, 16], [0, 3, 14, 15], [3], [0, 3, 14, 15], [0, 3, 14, 15], [0, 3, 14, 15], [0, 3, 14, 15], [0, 3, 4, 14, 15], [0, 3, 4, 14, 15], [0, 3, 5, 14, 15], [0, 3, 5, 14, 15], [0, 3, 5, 6, 7, 14, 15], [0, 3, 5, 6, 7, 14, 15], [0, 3, 5, 6, 7, 14, 15], [0, 3, 5, 6, 14, 15, 28], [0, 3, 6, 14, 15], [0, 3, 6, 14, 15], [0, 3, 6, 14, 15], [0, 3, 5, 14, 15], [0, 3, 5, 14, 15], [0, 3, 5, 14, 15, 33], [0, 3, 5, 14, 15], [0, 3, 5, 14, 15], [0, 3, 14, 15], [3], [3], [3], [3], [2]]
def quote_Quote.lv : Nat → List Nat := lvOf quote_Quote.lvs
noncomputable def quote_Quote.code : Code := bodyOf Tryz.f24
noncomputable def quote_Quote.fe : FE := ⟨Tryz.f24, quote_Quote.code, quote_Quote.lv⟩
theorem quote_Quote.ok (w0 : Base) : FOK (cx w0) quote_Quote.id quote_Quote.fe := ⟨Tryz.func24, by kernel_rfl, by kernel_rfl⟩
end Go.Sv
