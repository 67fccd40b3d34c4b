/- What the code of Go functions comes to over abstract stores, piece by piece; each equation by the kernel. Printed by a program of this session. -/
import Derived.Test.YtgdnoobpnhmpjaaGreatDoorSvT
import Derived.KernelRfl
set_option linter.unusedVariables false
set_option maxRecDepth 100000
namespace Go.Sv
open Go Go.Proofs
namespace selvagelaw28_StreamRecounts
variable {Z : XT} {w0 : Base} {n : Nat} {R : RT} {σ τ : Store} {t2 : Bool} {text : List UInt8}
end selvagelaw28_StreamRecounts
namespace strings_TrimLeft
def lvs : List (List Nat) := [[0, 1], [0, 1], [0, 1], [0, 1], [0, 1], [0, 1, 12], [0], [0], [4], [0, 1], [0, 1], [0, 1], [0, 1], [0, 1, 21], [0, 1], [0, 1], [4], [0, 1], [0, 1], [0, 1], [0, 1], [0, 1, 5, 6], [0, 1, 5, 6], [0, 1, 5, 31], [0, 5], [0, 5], [4], [0, 1], [0, 1], [0, 1], [4]]
def lv : Nat → List Nat := lvOf lvs
noncomputable def code : Code := bodyOf Tryz.f70
noncomputable def fe : FE := ⟨Tryz.f70, code, lv⟩
theorem ok (w0 : Base) : FOK (cx w0) strings_TrimLeft.id fe := ⟨Tryz.func70, by kernel_rfl, by kernel_rfl⟩
variable {Z : XT} {w0 : Base} {n : Nat} {R : RT} {σ τ : Store} {s cutset : List UInt8} {t12 t21 : Bool}
end strings_TrimLeft
namespace strings_trimLeftASCII
def lvs : List (List Nat) := [[0, 1], [0, 1], [0, 1], [0, 1], [0, 1], [0, 1], [0, 1], [0, 1], [0, 1, 7], [0, 1], [0], [0, 1], [0, 1], [0, 1], [0, 1], [0, 1, 12], [0], [0, 1], [0, 1], [0], [0], [4]]
def lv : Nat → List Nat := lvOf lvs
noncomputable def code : Code := bodyOf Tryz.f111
noncomputable def fe : FE := ⟨Tryz.f111, code, lv⟩
theorem ok (w0 : Base) : FOK (cx w0) strings_trimLeftASCII.id fe := ⟨Tryz.func111, by kernel_rfl, by kernel_rfl⟩
variable {Z : XT} {w0 : Base} {n : Nat} {R : RT} {σ τ : Store} {s s' : List UInt8} {as_ as_' : AV}
end strings_trimLeftASCII
namespace strings_Cut
def lvs : List (List Nat) := [[0, 1], [0, 1], [0, 1], [0, 1], [4, 5, 6]]
def lv : Nat → List Nat := lvOf lvs
noncomputable def code : Code := bodyOf Tryz.f122
noncomputable def fe : FE := ⟨Tryz.f122, code, lv⟩
theorem ok (w0 : Base) : FOK (cx w0) strings_Cut.id fe := ⟨Tryz.func122, by kernel_rfl, by kernel_rfl⟩
variable {Z : XT} {w0 : Base} {n : Nat} {R : RT} {σ τ : Store} {s sep : List UInt8}
end strings_Cut
namespace stringslite_Cut
def lvs : List (List Nat) := [[0, 1], [0, 1], [0, 1], [0, 1], [0, 1], [0, 1, 7], [0, 1, 7], [0, 1, 7, 12], [0, 1, 7], [0, 1, 7], [4, 5, 6], [0], [0], [0], [4, 5, 6]]
def lv : Nat → List Nat := lvOf lvs
noncomputable def code : Code := bodyOf Tryz.f155
noncomputable def fe : FE := ⟨Tryz.f155, code, lv⟩
theorem ok (w0 : Base) : FOK (cx w0) stringslite_Cut.id fe := ⟨Tryz.func155, by kernel_rfl, by kernel_rfl⟩
variable {Z : XT} {w0 : Base} {n : Nat} {R : RT} {σ τ : Store} {s sep : List UInt8}
end stringslite_Cut
namespace strings_CutPrefix
def lvs : List (List Nat) := [[0, 1], [0, 1], [0, 1], [0, 1], [4, 5]]
def lv : Nat → List Nat := lvOf lvs
noncomputable def code : Code := bodyOf Tryz.f65
noncomputable def fe : FE := ⟨Tryz.f65, code, lv⟩
theorem ok (w0 : Base) : FOK (cx w0) strings_CutPrefix.id fe := ⟨Tryz.func65, by kernel_rfl, by kernel_rfl⟩
variable {Z : XT} {w0 : Base} {n : Nat} {R : RT} {σ τ : Store} {s prefix_ : List UInt8}
end strings_CutPrefix
namespace stringslite_CutPrefix
def lvs : List (List Nat) := [[0, 1], [0, 1], [0, 1], [0, 1], [0, 1], [0, 1, 9], [0], [0], [4, 5], [0, 1], [0, 1], [0, 1], [4, 5]]
def lv : Nat → List Nat := lvOf lvs
noncomputable def code : Code := bodyOf Tryz.f96
noncomputable def fe : FE := ⟨Tryz.f96, code, lv⟩
theorem ok (w0 : Base) : FOK (cx w0) stringslite_CutPrefix.id fe := ⟨Tryz.func96, by kernel_rfl, by kernel_rfl⟩
variable {Z : XT} {w0 : Base} {n : Nat} {R : RT} {σ τ : Store} {s prefix_ : List UInt8}
end stringslite_CutPrefix
namespace stringslite_HasPrefix
def lvs : List (List Nat) := [[0, 1], [0, 1], [0, 1], [0, 1], [4]]
def lv : Nat → List Nat := lvOf lvs
noncomputable def code : Code := bodyOf Tryz.f121
noncomputable def fe : FE := ⟨Tryz.f121, code, lv⟩
theorem ok (w0 : Base) : FOK (cx w0) stringslite_HasPrefix.id fe := ⟨Tryz.func121, by kernel_rfl, by kernel_rfl⟩
variable {Z : XT} {w0 : Base} {n : Nat} {R : RT} {σ τ : Store} {t4 : Bool} {s prefix_ : List UInt8}
end stringslite_HasPrefix
end Go.Sv
