/- What the code of Go functions comes to over abstract stores, piece by piece; each equation by the kernel. Printed by a program of this session. -/
import Derived.Test.YtgdnoobpnhmpjaaGreatDoorSvT
import Derived.KernelRfl
set_option linter.unusedVariables false
set_option maxRecDepth 100000
namespace Go.Sv
open Go Go.Proofs
namespace selvagelaw28_twins
variable {Z : XT} {w0 : Base} {n : Nat} {R : RT} {σ τ : Store} {l_ out s h_ l_' out' s' h_' : AV} {i k i' k' : Int}
end selvagelaw28_twins
namespace selvagelaw28_num
def lvs : List (List Nat) := [[0], [0], [0], [0], [0], [0, 5], [], [], [2], [0], [0], [0], [0, 3], [0, 3], [0, 3], [3, 9], [], [], [2], [3], [3], [3], [2]]
def lv : Nat → List Nat := lvOf lvs
noncomputable def code : Code := bodyOf Tryz.f9
noncomputable def fe : FE := ⟨Tryz.f9, code, lv⟩
def cuts : List Nat := []
abbrev X (w0 : Base) (n : Nat) : XT := xr (cx w0) 11 lv n
theorem ok (w0 : Base) : FOK (cx w0) selvagelaw28_num.id fe := ⟨Tryz.func9, by kernel_rfl, by kernel_rfl⟩
section
variable (Z : XT) (w0 : Base) (n : Nat) (R : RT) (σ : Store) (e_ : AV)
def b0 : Prop :=
  pcodeX (cx w0) 11 lv n cuts Z code 0 (argsE 0 [e_]) σ (finQ (cx w0) Tryz.f9 n R)
end
variable {Z : XT} {w0 : Base} {n : Nat} {R : RT} {σ τ : Store} {e_ : AV}
theorem b0_eq : b0 Z w0 n R σ e_ = (
  aBinK tabS 24 true .eql e_ (.pv (.raw .nilIface)) fun v => isB v fun b => condB b (FinK (cx w0) n (.pv (.int .i64 0)) σ R) (opt (aMakeInterface 75 (.ptr (List.length σ) 0)) fun t7 => SCalls (cx w0) errors_As.id [e_, t7] (σ ++ [.cells 61 (AV.ofValue ti61.zero).cells]) fun r σ' => isB r fun t8 => condB (!t8) (FinK (cx w0) n (.pv (.int .i64 (-1))) σ' R) (opt (aLoad σ' ti61 (.ptr (List.length σ) 0)) fun t10 => isI .i64 t10 fun t10_1 => FinK (cx w0) n (.pv (.int .i64 t10_1)) σ' R))) := by kernel_rfl
theorem calls (h : b0 (X w0 (List.length σ)) w0 (List.length σ) R σ e_) : SCalls (cx w0) selvagelaw28_num.id [e_] σ R :=
  xr_enter (cxOK w0) (x := fe) (S := cuts) (selvagelaw28_num.ok w0) (by kernel_rfl) @h
attribute [irreducible] b0
end selvagelaw28_num
namespace selvagelaw28_StreamTotals
variable {Z : XT} {w0 : Base} {n : Nat} {R : RT} {σ τ : Store} {l_ a e_ b c l_' a' e_' b' c' : AV} {t34 t70 t108 t2 : Bool} {i i' : Int}
end selvagelaw28_StreamTotals
end Go.Sv
