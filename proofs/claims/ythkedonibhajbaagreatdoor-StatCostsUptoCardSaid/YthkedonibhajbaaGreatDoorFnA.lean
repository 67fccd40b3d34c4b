/- What the code of Go functions comes to over abstract stores, piece by piece; each equation by the kernel. Printed by a program of this session. -/
import Derived.Test.YthkedonibhajbaaGreatDoorSvT
import Derived.KernelRfl
set_option linter.unusedVariables false
set_option maxRecDepth 100000
namespace Go.Sv
open Go Go.Proofs
/-! ### selvage/selvagelaw16.num -/
def selvagelaw16_num.lvs : List (List Nat) := [[0], [0], [0], [0], [0], [0, 5], [], [], [2], [0], [0], [0], [0, 3], [0, 3], [0, 3], [3, 9], [], [], [2], [3], [3], [3], [2]]
def selvagelaw16_num.lv : Nat → List Nat := lvOf selvagelaw16_num.lvs
noncomputable def selvagelaw16_num.code : Code := bodyOf Tryz.f16
noncomputable def selvagelaw16_num.fe : FE := ⟨Tryz.f16, selvagelaw16_num.code, selvagelaw16_num.lv⟩
def selvagelaw16_num.cuts : List Nat := []
abbrev selvagelaw16_num.X (w0 : Base) (n : Nat) : XT := xr (cx w0) 11 selvagelaw16_num.lv n
def selvagelaw16_num.b0 (X : XT) (w0 : Base) (n : Nat) (R : AV → Store → Prop) (σ : Store) (e_ : AV) : Prop :=
  pcodeX (cx w0) 11 selvagelaw16_num.lv n selvagelaw16_num.cuts X selvagelaw16_num.code 0 (argsE 0 [e_]) σ (finQ (cx w0) Tryz.f16 n R)
theorem selvagelaw16_num.b0_eq (X : XT) (w0 : Base) (n : Nat) (R : AV → Store → Prop) (σ : Store) (e_ : AV) : selvagelaw16_num.b0 X w0 n R σ e_ = (
  aBinK tabS 33 true .eql e_ (.pv (.raw .nilIface)) fun v => isB v fun b => condB b (FinK (cx w0) n (.pv (.int .i64 0)) σ R) (opt (aMakeInterface 86 (.ptr (List.length σ) 0)) fun t7 => SCalls (cx w0) errors_As.id [e_, t7] (σ ++ [.cells 62 (AV.ofValue ti62.zero).cells]) fun r σ' => isB r fun t8 => condB (!t8) (FinK (cx w0) n (.pv (.int .i64 (-1))) σ' R) (opt (aLoad σ' ti62 (.ptr (List.length σ) 0)) fun t10 => isI .i64 t10 fun t10_1 => FinK (cx w0) n (.pv (.int .i64 t10_1)) σ' R))) := by kernel_rfl
theorem selvagelaw16_num.ok (w0 : Base) : FOK (cx w0) selvagelaw16_num.id selvagelaw16_num.fe := ⟨Tryz.func16, by kernel_rfl, by kernel_rfl⟩
theorem selvagelaw16_num.calls {w0 : Base} {R : AV → Store → Prop} {σ : Store} {e_ : AV} (h : selvagelaw16_num.b0 (selvagelaw16_num.X w0 (List.length σ)) w0 (List.length σ) R σ e_) : SCalls (cx w0) selvagelaw16_num.id [e_] σ R :=
  xr_enter (cxOK w0) (x := selvagelaw16_num.fe) (S := selvagelaw16_num.cuts) (selvagelaw16_num.ok w0) (by kernel_rfl) h
end Go.Sv
