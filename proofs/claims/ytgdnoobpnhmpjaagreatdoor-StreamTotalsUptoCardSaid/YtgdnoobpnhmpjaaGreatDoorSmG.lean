/- What the code of Go functions comes to over abstract stores, piece by piece; each equation by the kernel. Printed by a program of this session. -/
import Derived.Test.YtgdnoobpnhmpjaaGreatDoorSvT
import Derived.KernelRfl
set_option linter.unusedVariables false
set_option maxRecDepth 100000
namespace Go.Sv
open Go Go.Proofs
namespace stream_header
variable {Z : XT} {w0 : Base} {n : Nat} {R : RT} {σ τ : Store} {t2 : Bool} {l_ : AV}
end stream_header
namespace stream_first
variable {Z : XT} {w0 : Base} {n : Nat} {R : RT} {σ τ : Store} {s t4 : List UInt8} {ok t5 : Bool} {a b t2 t3 : Int}
end stream_first
namespace stream_rows
variable {Z : XT} {w0 : Base} {n : Nat} {R : RT} {σ τ : Store} {l_ l_' : AV} {n_ old new_ t23 n_' old' new_' : Int} {t18 t27 : Bool}
end stream_rows
namespace stream_span
variable {Z : XT} {w0 : Base} {n : Nat} {R : RT} {σ τ : Store} {rest first s : List UInt8} {t41 : Bool}
end stream_span
namespace stream_small
variable {Z : XT} {w0 : Base} {n : Nat} {R : RT} {σ τ : Store} {s : List UInt8}
end stream_small
namespace stream_numbers
def lvs : List (List Nat) := [[0], [0], [0], [0], [4, 5], [4, 5], [4, 5], [4, 5, 6, 7], [4, 5, 6, 7], [4, 5, 6, 21], [6], [6], [2, 3], [4, 5], [4, 5], [4, 5], [2, 3]]
def lv : Nat → List Nat := lvOf lvs
noncomputable def code : Code := bodyOf Tryz.f90
noncomputable def fe : FE := ⟨Tryz.f90, code, lv⟩
theorem ok (w0 : Base) : FOK (cx w0) stream_numbers.id fe := ⟨Tryz.func90, by kernel_rfl, by kernel_rfl⟩
variable {Z : XT} {w0 : Base} {n : Nat} {R : RT} {σ τ : Store} {rest more s : List UInt8} {ok t21 : Bool}
end stream_numbers
namespace stream_digits
def lvs : List (List Nat) := [[0], [0], [0], [0], [0, 4], [0, 4], [2, 3]]
def lv : Nat → List Nat := lvOf lvs
noncomputable def code : Code := bodyOf Tryz.f91
noncomputable def fe : FE := ⟨Tryz.f91, code, lv⟩
theorem ok (w0 : Base) : FOK (cx w0) stream_digits.id fe := ⟨Tryz.func91, by kernel_rfl, by kernel_rfl⟩
variable {Z : XT} {w0 : Base} {n : Nat} {R : RT} {σ τ : Store} {s : List UInt8}
end stream_digits
namespace stream_ranged
variable {Z : XT} {w0 : Base} {n : Nat} {R : RT} {σ τ : Store} {at_ count : Int}
end stream_ranged
namespace stream_Recount
variable {Z : XT} {w0 : Base} {n : Nat} {R : RT} {σ τ : Store} {l_ l_' : AV} {in_ t46 in_' : Bool} {i a b i' : Int} {rest text : List UInt8}
end stream_Recount
namespace lines_Split
def lvs : List (List Nat) := [[0], [0], [0], [0], [0, 3], [0, 3], [0, 3], [0, 3], [0, 3], [0, 3], [0, 3, 6], [0, 3], [3], [0, 3], [0, 3], [0, 3], [0, 3, 4], [0, 3, 4], [0, 3, 4], [0, 3, 4, 11], [0, 3], [0, 3, 4], [0, 3, 4], [0, 3, 4], [0, 3, 4], [3], [3], [2]]
def lv : Nat → List Nat := lvOf lvs
noncomputable def code : Code := bodyOf Tryz.f21
noncomputable def fe : FE := ⟨Tryz.f21, code, lv⟩
theorem ok (w0 : Base) : FOK (cx w0) lines_Split.id fe := ⟨Tryz.func21, by kernel_rfl, by kernel_rfl⟩
variable {Z : XT} {w0 : Base} {n : Nat} {R : RT} {σ τ : Store} {s s' : List UInt8} {out out' : AV} {at_ : Int}
end lines_Split
namespace lines_Join
def lvs : List (List Nat) := [[0], [0], [0], [0], [2]]
def lv : Nat → List Nat := lvOf lvs
noncomputable def code : Code := bodyOf Tryz.f46
noncomputable def fe : FE := ⟨Tryz.f46, code, lv⟩
theorem ok (w0 : Base) : FOK (cx w0) lines_Join.id fe := ⟨Tryz.func46, by kernel_rfl, by kernel_rfl⟩
variable {Z : XT} {w0 : Base} {n : Nat} {R : RT} {σ τ : Store} {l_ : AV}
end lines_Join
end Go.Sv
