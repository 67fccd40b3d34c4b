/- What the code of Go functions comes to over abstract stores, piece by piece; each equation by the kernel. Printed by a program of this session. -/
import Derived.Test.YthkedonibhajbaaGreatDoorSvT
import Derived.KernelRfl
set_option linter.unusedVariables false
set_option maxRecDepth 100000
namespace Go.Sv
open Go Go.Proofs
/-! ### selvage/stat.sums -/
def stat_sums.lvs : List (List Nat) := [[0], [0], [0, 2, 3], [0, 2, 3], [0, 2, 3], [0, 2, 3, 9], [], [], [2, 3, 4], [0, 2, 3], [0, 2, 3], [0, 2, 3], [0, 2, 3], [2, 3, 10, 11, 12], [2, 3, 10, 11, 12], [2, 3, 10, 11, 12], [2, 3, 10, 11, 12], [2, 3, 10, 11, 12, 13], [2, 3, 10, 11, 12, 13], [2, 3, 10, 11, 12], [2, 3], [2, 3, 10, 11, 12], [2, 3, 10, 11, 12], [2, 3, 10, 11, 12], [2, 3, 10, 11, 12], [2, 3, 6, 10, 11, 12], [2, 3, 6, 10, 11, 12], [2, 3, 6, 10, 11, 12], [2, 3, 6, 10, 11, 12, 25], [], [], [2, 3, 4], [2, 3, 6, 10, 11, 12], [2, 3, 6, 10, 11, 12], [2, 3, 6, 10, 11, 12], [2, 3, 6, 10, 11, 12], [2, 3, 10, 11, 12], [2, 3], [2, 3], [2, 3, 4]]
def stat_sums.lv : Nat → List Nat := lvOf stat_sums.lvs
noncomputable def stat_sums.code : Code := bodyOf Tryz.f32
noncomputable def stat_sums.fe : FE := ⟨Tryz.f32, stat_sums.code, stat_sums.lv⟩
theorem stat_sums.ok (w0 : Base) : FOK (cx w0) stat_sums.id stat_sums.fe := ⟨Tryz.func32, by kernel_rfl, by kernel_rfl⟩
/-! ### selvage/stat.some -/
def stat_some.lvs : List (List Nat) := [[0, 1, 2], [0, 1, 2], [0, 1, 2], [0, 1, 2], [0, 1, 2], [0, 1, 2, 8], [0, 1, 2], [0, 1, 2], [0, 1, 2], [0, 1, 2], [6]]
def stat_some.lv : Nat → List Nat := lvOf stat_some.lvs
noncomputable def stat_some.code : Code := bodyOf Tryz.f33
noncomputable def stat_some.fe : FE := ⟨Tryz.f33, stat_some.code, stat_some.lv⟩
theorem stat_some.ok (w0 : Base) : FOK (cx w0) stat_some.id stat_some.fe := ⟨Tryz.func33, by kernel_rfl, by kernel_rfl⟩
/-! ### selvage/stat.Total -/
def stat_Total.lvs : List (List Nat) := [[0], [0], [0], [0], [0, 4, 5, 6], [0, 4, 5, 6], [0, 4, 5, 6], [0, 4, 5, 15], [], [], [2, 3], [0, 4, 5], [0, 4, 5], [0, 4, 5], [4, 5, 7], [4, 5, 7], [4, 5, 7], [4, 5, 7, 22], [4, 5, 7], [5, 7], [5, 7], [5, 7], [5, 7], [5, 7, 29], [5, 7], [7], [7], [7], [2, 3]]
def stat_Total.lv : Nat → List Nat := lvOf stat_Total.lvs
noncomputable def stat_Total.code : Code := bodyOf Tryz.f15
noncomputable def stat_Total.fe : FE := ⟨Tryz.f15, stat_Total.code, stat_Total.lv⟩
theorem stat_Total.ok (w0 : Base) : FOK (cx w0) stat_Total.id stat_Total.fe := ⟨Tryz.func15, by kernel_rfl, by kernel_rfl⟩
/-! ### selvage/stat.fits -/
def stat_fits.lvs : List (List Nat) := [[0], [0], [0], [0], [2]]
def stat_fits.lv : Nat → List Nat := lvOf stat_fits.lvs
noncomputable def stat_fits.code : Code := bodyOf Tryz.f30
noncomputable def stat_fits.fe : FE := ⟨Tryz.f30, stat_fits.code, stat_fits.lv⟩
theorem stat_fits.ok (w0 : Base) : FOK (cx w0) stat_fits.id stat_fits.fe := ⟨Tryz.func30, by kernel_rfl, by kernel_rfl⟩
/-! ### selvage/stat.Bar$1 -/
def stat_Bar_1.lvs : List (List Nat) := [[0, 1, 2], [0, 1, 2], [0, 1, 2], [0, 1, 2], [0, 1, 2], [0, 1, 2, 6], [], [], [4], [0, 1, 2], [0, 1, 2], [0, 1, 2], [4]]
def stat_Bar_1.lv : Nat → List Nat := lvOf stat_Bar_1.lvs
noncomputable def stat_Bar_1.code : Code := bodyOf Tryz.f31
noncomputable def stat_Bar_1.fe : FE := ⟨Tryz.f31, stat_Bar_1.code, stat_Bar_1.lv⟩
theorem stat_Bar_1.ok (w0 : Base) : FOK (cx w0) stat_Bar_1.id stat_Bar_1.fe := ⟨Tryz.func31, by kernel_rfl, by kernel_rfl⟩
/-! ### selvage/stat.Bar -/
def stat_Bar.lvs : List (List Nat) := [[0, 1, 2, 3], [0, 1, 2, 3], [0, 1, 6, 7], [0, 1, 6, 7], [0, 1, 6, 7], [0, 1, 6, 7, 41], [], [], [8, 9], [0, 1, 6, 7], [0, 1, 6, 7], [0, 1, 6, 7], [0, 1, 6, 7], [0, 1, 6, 7, 44], [0, 1], [0, 1], [8, 9], [0, 1, 6, 7], [0, 1, 6, 7], [0, 1, 6, 7], [0, 1, 10], [0, 1, 10], [0, 1, 10, 11], [0, 1, 10, 11], [0, 1, 10, 11, 12], [0, 1, 10, 11, 12], [0, 1, 10, 11, 12], [0, 1, 10, 11, 12, 59], [0, 1, 10, 11, 12], [0, 1, 10, 11, 12], [0, 1, 10, 11, 12], [0, 1, 10, 11, 12], [0, 1, 11, 12, 13], [0, 1, 11, 12, 13], [0, 1, 11, 12, 13], [0, 1, 12, 13, 67], [0, 1, 12, 13], [0, 1, 12, 13], [0, 1, 12, 13], [0, 1, 12, 13], [0, 1, 12, 13], [12, 13, 75], [12, 13], [12, 13], [8, 9], [12, 13], [12, 13], [12, 13], [8, 9]]
def stat_Bar.lv : Nat → List Nat := lvOf stat_Bar.lvs
noncomputable def stat_Bar.code : Code := bodyOf Tryz.f14
noncomputable def stat_Bar.fe : FE := ⟨Tryz.f14, stat_Bar.code, stat_Bar.lv⟩
theorem stat_Bar.ok (w0 : Base) : FOK (cx w0) stat_Bar.id stat_Bar.fe := ⟨Tryz.func14, by kernel_rfl, by kernel_rfl⟩
end Go.Sv
