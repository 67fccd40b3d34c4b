/- What the code of Go functions comes to over abstract stores, piece by piece; each equation by the kernel. Printed by a program of this session. -/
import Derived.Test.YtgdnoobpnhmpjaaGreatDoorSvT
import Derived.KernelRfl
set_option linter.unusedVariables false
set_option maxRecDepth 100000
namespace Go.Sv
open Go Go.Proofs
namespace selvageref11_Digits
def lvs : List (List Nat) := [[0], [0], [0], [0], [0], [0, 4], [0], [0], [2], [0], [0], [0], [0], [0, 10], [0], [0], [2], [0], [0], [0], [2]]
def lv : Nat → List Nat := lvOf lvs
noncomputable def code : Code := bodyOf Tryz.f87
noncomputable def fe : FE := ⟨Tryz.f87, code, lv⟩
def cuts : List Nat := []
abbrev X (w0 : Base) (n : Nat) : XT := xr (cx w0) 25 lv n
theorem ok (w0 : Base) : FOK (cx w0) selvageref11_Digits.id fe := ⟨Tryz.func87, by kernel_rfl, by kernel_rfl⟩
section
variable (Z : XT) (w0 : Base) (n : Nat) (R : RT) (σ : Store) (n_ : Int)
def b0 : Prop :=
  pcodeX (cx w0) 25 lv n cuts Z code 0 (argsE 0 [(.pv (.int .i64 n_))]) σ (finQ (cx w0) Tryz.f87 n R)
end
variable {Z : XT} {w0 : Base} {n : Nat} {R : RT} {σ τ : Store} {n_ : Int}
theorem b0_eq : b0 Z w0 n R σ n_ = (
  condB (decide ((n_ : Int) < 0)) (SCalls (cx w0) selvageref11_Digits.id [(.pv (.int .i64 (IntKind.wrap .i64 (0 - n_))))] σ fun r σ' => isS r fun t7 => (List.length ([45] : List UInt8) + List.length (t7 : List UInt8) ≤ 9223372036854775807 ∧ (FinK (cx w0) n (.pv (.str ([45] ++ t7))) σ' R))) (condB (decide ((n_ : Int) < 10)) (opt (aSlice σ tabS ti9.td (.pv (.str [48, 49, 50, 51, 52, 53, 54, 55, 56, 57])) (some (.pv (.int .i64 n_))) (some (.pv (.int .i64 (IntKind.wrap .i64 (n_ + 1)))))) fun t14 => isS t14 fun t14_1 => FinK (cx w0) n (.pv (.str t14_1)) σ R) (((10 : Int) ≠ 0 ∧ (((10 : Int) ≠ 0 ∧ (((10 : Int) ≠ 0 ∧ (opt (aSlice σ tabS ti9.td (.pv (.str [48, 49, 50, 51, 52, 53, 54, 55, 56, 57])) (some (.pv (.int .i64 (Int.tmod n_ 10)))) (some (.pv (.int .i64 (IntKind.wrap .i64 ((Int.tmod n_ 10) + 1)))))) fun t23 => isS t23 fun t23_1 => SCalls (cx w0) selvageref11_Digits.id [(.pv (.int .i64 (IntKind.wrap .i64 (Int.tdiv n_ 10))))] σ fun r σ' => isS r fun t17 => ((opt (aSlice σ' tabS ti9.td (.pv (.str [48, 49, 50, 51, 52, 53, 54, 55, 56, 57])) (some (.pv (.int .i64 (Int.tmod n_ 10)))) (some (.pv (.int .i64 (IntKind.wrap .i64 ((Int.tmod n_ 10) + 1)))))) fun t23_2 => ((t23_2 : AV) = (.pv (.str t23_1)))) ∧ ((List.length (t17 : List UInt8) + List.length (t23_1 : List UInt8) ≤ 9223372036854775807 ∧ (FinK (cx w0) n (.pv (.str (t17 ++ t23_1))) σ' R))))))))))))) := by kernel_rfl
theorem calls (h : b0 (X w0 (List.length σ)) w0 (List.length σ) R σ n_) : SCalls (cx w0) selvageref11_Digits.id [(.pv (.int .i64 n_))] σ R :=
  xr_enter (cxOK w0) (x := fe) (S := cuts) (selvageref11_Digits.ok w0) (by kernel_rfl) @h
attribute [irreducible] b0
end selvageref11_Digits
end Go.Sv
