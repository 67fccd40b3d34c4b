/- What the code of Go functions comes to over abstract stores, piece by piece; each equation by the kernel. Printed by a program of this session. -/
import Derived.Test.YtgdnoobpnhmpjaaGreatDoorSvT
import Derived.KernelRfl
set_option linter.unusedVariables false
set_option maxRecDepth 100000
namespace Go.Sv
open Go Go.Proofs
namespace hunks_line
def lvs : List (List Nat) := [[0], [0], [0], [0], [2]]
def lv : Nat → List Nat := lvOf lvs
noncomputable def code : Code := bodyOf Tryz.f150
noncomputable def fe : FE := ⟨Tryz.f150, code, lv⟩
theorem ok (w0 : Base) : FOK (cx w0) hunks_line.id fe := ⟨Tryz.func150, by kernel_rfl, by kernel_rfl⟩
variable {Z : XT} {w0 : Base} {n : Nat} {R : RT} {σ τ : Store} {t2 : Bool} {s : List UInt8}
end hunks_line
namespace hunks_side_add
def lvs : List (List Nat) := [[0, 1], [0, 1], [0, 1], [0, 1], [0, 1], [0, 1, 8], [], [], [4], [0, 1], [0, 1], [0, 1], [0, 1], [0, 1], [], [], [4]]
def lv : Nat → List Nat := lvOf lvs
noncomputable def code : Code := bodyOf Tryz.f151
noncomputable def fe : FE := ⟨Tryz.f151, code, lv⟩
theorem ok (w0 : Base) : FOK (cx w0) hunks_side_add.id fe := ⟨Tryz.func151, by kernel_rfl, by kernel_rfl⟩
variable {Z : XT} {w0 : Base} {n : Nat} {R : RT} {σ τ : Store} {s : AV} {text : List UInt8}
end hunks_side_add
namespace hunks_place
def lvs : List (List Nat) := [[0, 1], [0, 1], [0, 1], [0, 1], [4]]
def lv : Nat → List Nat := lvOf lvs
noncomputable def code : Code := bodyOf Tryz.f117
noncomputable def fe : FE := ⟨Tryz.f117, code, lv⟩
theorem ok (w0 : Base) : FOK (cx w0) hunks_place.id fe := ⟨Tryz.func117, by kernel_rfl, by kernel_rfl⟩
variable {Z : XT} {w0 : Base} {n : Nat} {R : RT} {σ τ : Store} {t4 : Bool} {at_ count : Int}
end hunks_place
namespace lines_Bare
def lvs : List (List Nat) := [[0], [0], [0], [0], [2]]
def lv : Nat → List Nat := lvOf lvs
noncomputable def code : Code := bodyOf Tryz.f44
noncomputable def fe : FE := ⟨Tryz.f44, code, lv⟩
def cuts : List Nat := []
abbrev X (w0 : Base) (n : Nat) : XT := xr (cx w0) 5 lv n
theorem ok (w0 : Base) : FOK (cx w0) lines_Bare.id fe := ⟨Tryz.func44, by kernel_rfl, by kernel_rfl⟩
section
variable (Z : XT) (w0 : Base) (n : Nat) (R : RT) (σ : Store) (line : List UInt8)
def b0 : Prop :=
  pcodeX (cx w0) 5 lv n cuts Z code 0 (argsE 0 [(.pv (.str line))]) σ (finQ (cx w0) Tryz.f44 n R)
end
variable {Z : XT} {w0 : Base} {n : Nat} {R : RT} {σ τ : Store} {line : List UInt8}
theorem b0_eq : b0 Z w0 n R σ line = (
  SCalls (cx w0) strings_TrimSuffix.id [(.pv (.str line)), (.pv (.str [10]))] σ fun r σ' => isS r fun t4 => FinK (cx w0) n (.pv (.str t4)) σ' R) := by kernel_rfl
theorem calls (h : b0 (X w0 (List.length σ)) w0 (List.length σ) R σ line) : SCalls (cx w0) lines_Bare.id [(.pv (.str line))] σ R :=
  xr_enter (cxOK w0) (x := fe) (S := cuts) (lines_Bare.ok w0) (by kernel_rfl) @h
attribute [irreducible] b0
end lines_Bare
namespace lines_Whole
def lvs : List (List Nat) := [[0], [0], [0], [0], [2]]
def lv : Nat → List Nat := lvOf lvs
noncomputable def code : Code := bodyOf Tryz.f22
noncomputable def fe : FE := ⟨Tryz.f22, code, lv⟩
theorem ok (w0 : Base) : FOK (cx w0) lines_Whole.id fe := ⟨Tryz.func22, by kernel_rfl, by kernel_rfl⟩
variable {Z : XT} {w0 : Base} {n : Nat} {R : RT} {σ τ : Store} {line : List UInt8}
end lines_Whole
namespace hunks_sides
def lvs : List (List Nat) := [[0], [0], [1, 2, 3], [1, 2, 3], [1, 2, 3, 5], [1, 2, 3, 5], [1, 2, 3, 5], [2, 3, 5, 9, 10, 11], [2, 3, 5, 9, 10, 11], [2, 3, 5, 9, 10, 11], [2, 3, 5, 9, 10, 11], [2, 3, 5, 9, 10, 11, 12], [2, 3, 5, 9, 10, 11, 12], [2, 3, 5, 9, 10, 11], [2, 3, 5], [2, 3, 5, 9, 10, 11], [2, 3, 5, 9, 10, 11], [2, 3, 5, 9, 10, 11], [2, 3, 5, 9, 10, 11], [2, 3, 5, 7, 9, 10, 11], [2, 3, 5, 7, 9, 10, 11], [2, 3, 5, 7, 9, 10, 11], [2, 3, 5, 7, 9, 10, 11, 28], [2, 3], [2, 3], [2, 3, 4], [2, 3, 5, 7, 9, 10, 11], [2, 3, 5, 7, 9, 10, 11], [2, 3, 5, 7, 9, 10, 11], [2, 3, 5, 7, 9, 10, 11], [2, 3, 5, 7, 9, 10, 11], [2, 3, 5, 9, 10, 11, 56], [2, 3], [2, 3], [2, 3, 4], [2, 3, 5, 9, 10, 11], [2, 3, 5, 9, 10, 11], [2, 3, 5], [2, 3, 5], [2, 3, 4]]
def lv : Nat → List Nat := lvOf lvs
noncomputable def code : Code := bodyOf Tryz.f116
noncomputable def fe : FE := ⟨Tryz.f116, code, lv⟩
theorem ok (w0 : Base) : FOK (cx w0) hunks_sides.id fe := ⟨Tryz.func116, by kernel_rfl, by kernel_rfl⟩
variable {Z : XT} {w0 : Base} {n : Nat} {R : RT} {σ τ : Store} {old fresh t9 r h_ old' fresh' t9' : AV} {changes t28 t56 changes' : Bool} {t10 t11 t10' t11' : Int}
end hunks_sides
namespace hunks_Valid
def lvs : List (List Nat) := [[0], [0], [1], [1], [1, 3, 4, 5], [1, 3, 4, 5], [1, 3, 4, 5], [54], [], [], [2], [], [], [], [2]]
def lv : Nat → List Nat := lvOf lvs
noncomputable def code : Code := bodyOf Tryz.f77
noncomputable def fe : FE := ⟨Tryz.f77, code, lv⟩
theorem ok (w0 : Base) : FOK (cx w0) hunks_Valid.id fe := ⟨Tryz.func77, by kernel_rfl, by kernel_rfl⟩
variable {Z : XT} {w0 : Base} {n : Nat} {R : RT} {σ τ : Store} {t54 : Bool} {h_ : AV}
end hunks_Valid
end Go.Sv
