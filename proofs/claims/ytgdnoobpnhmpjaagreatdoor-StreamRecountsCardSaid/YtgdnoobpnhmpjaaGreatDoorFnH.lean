/- What the code of Go functions comes to over abstract stores, piece by piece; each equation by the kernel. Printed by a program of this session. -/
import Derived.Test.YtgdnoobpnhmpjaaGreatDoorSvT
import Derived.KernelRfl
set_option linter.unusedVariables false
set_option maxRecDepth 100000
namespace Go.Sv
open Go Go.Proofs
namespace selvageref10_old
variable {Z : XT} {w0 : Base} {n : Nat} {R : RT} {σ τ : Store} {t2 : Bool} {r : AV}
end selvageref10_old
namespace selvageref10_fresh
variable {Z : XT} {w0 : Base} {n : Nat} {R : RT} {σ τ : Store} {t2 : Bool} {r : AV}
end selvageref10_fresh
namespace selvageref10_line
variable {Z : XT} {w0 : Base} {n : Nat} {R : RT} {σ τ : Store} {s s' : List UInt8} {i i' : Int}
end selvageref10_line
namespace selvageref01_Whole
def lvs : List (List Nat) := [[0], [0], [0], [0], [2]]
def lv : Nat → List Nat := lvOf lvs
noncomputable def code : Code := bodyOf Tryz.f50
noncomputable def fe : FE := ⟨Tryz.f50, code, lv⟩
def cuts : List Nat := [4]
abbrev X (w0 : Base) (n : Nat) : XT := xr (cx w0) 14 lv n
theorem ok (w0 : Base) : FOK (cx w0) selvageref01_Whole.id fe := ⟨Tryz.func50, by kernel_rfl, by kernel_rfl⟩
section
variable (Z : XT) (w0 : Base) (n : Nat) (R : RT) (σ : Store) (t2 : Bool) (line : List UInt8)
def n4 : Prop :=
  Z (cAt code 4) 4 [(2, (.pv (.bool t2)))] σ (finQ (cx w0) Tryz.f50 n R)
def b4 : Prop :=
  pcodeX (cx w0) 14 lv n cuts Z (cAt code 4) 4 [(2, (.pv (.bool t2)))] σ (finQ (cx w0) Tryz.f50 n R)
def b0 : Prop :=
  pcodeX (cx w0) 14 lv n cuts Z code 0 (argsE 0 [(.pv (.str line))]) σ (finQ (cx w0) Tryz.f50 n R)
end
variable {Z : XT} {w0 : Base} {n : Nat} {R : RT} {σ τ : Store} {t2 : Bool} {line : List UInt8}
theorem b4_eq : b4 Z w0 n R σ t2 = (
  FinK (cx w0) n (.pv (.bool t2)) σ R) := by kernel_rfl
theorem n4_in (h : b4 (X w0 n) w0 n R σ t2) : n4 (X w0 n) w0 n R σ t2 := xr_in (S := cuts) (by kernel_rfl) @h
theorem b0_eq : b0 Z w0 n R σ line = (
  condB (decide (((List.length (line : List UInt8) : Int) : Int) > 0)) (opt (aIndex tabS ti9.td (.pv (.str line)) (IntKind.wrap .i64 ((List.length (line : List UInt8) : Int) - 1))) fun t11 => isI .u8 t11 fun t11_1 => n4 Z w0 n R σ ((t11_1 : Int) == 10)) (n4 Z w0 n R σ false)) := by kernel_rfl
theorem calls (h : b0 (X w0 (List.length σ)) w0 (List.length σ) R σ line) : SCalls (cx w0) selvageref01_Whole.id [(.pv (.str line))] σ R :=
  xr_enter (cxOK w0) (x := fe) (S := cuts) (selvageref01_Whole.ok w0) (by kernel_rfl) @h
attribute [irreducible] n4 b4 b0
end selvageref01_Whole
namespace selvageref10_Counts
variable {Z : XT} {w0 : Base} {n : Nat} {R : RT} {σ τ : Store} {l_ l_' : AV} {n_ m i n_' m' i' : Int}
end selvageref10_Counts
namespace selvageref10_rows
variable {Z : XT} {w0 : Base} {n : Nat} {R : RT} {σ τ : Store} {l_ r l_' : AV} {ended over change t46 part ended' over' change' : Bool} {i i' : Int}
end selvageref10_rows
namespace selvageref10_start
variable {Z : XT} {w0 : Base} {n : Nat} {R : RT} {σ τ : Store} {a n_ least : Int} {t4 : Bool}
end selvageref10_start
namespace selvageref10_Valid
variable {Z : XT} {w0 : Base} {n : Nat} {R : RT} {σ τ : Store} {h_ h_' : AV} {ok ok' : Bool} {i i' : Int}
end selvageref10_Valid
end Go.Sv
