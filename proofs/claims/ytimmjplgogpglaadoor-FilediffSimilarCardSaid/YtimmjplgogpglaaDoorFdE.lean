/- What the code of Go functions comes to over abstract stores, piece by piece; each equation by the kernel. Printed by a program of this session. -/
import Derived.Test.YtimmjplgogpglaaDoorSvT
import Derived.KernelRfl
set_option linter.unusedVariables false
set_option maxRecDepth 100000
namespace Go.Sv
open Go Go.Proofs
namespace selvagelaw25_num
def lvs : List (List Nat) := [[0], [0], [0], [0], [0, 3], [0, 3], [0, 3], [0, 3, 5], [], [], [2], [0, 3], [0, 3], [0, 3], [0, 3], [3, 8], [3], [3], [2], [], [], [], [2]]
def lv : Nat → List Nat := lvOf lvs
noncomputable def code : Code := bodyOf Tryd.f7
noncomputable def fe : FE := ⟨Tryd.f7, code, lv⟩
def cuts : List Nat := []
abbrev X (w0 : Base) (n : Nat) : XT := xr (cx w0) 10 lv n
theorem ok (w0 : Base) : FOK (cx w0) selvagelaw25_num.id fe := ⟨Tryd.func7, by kernel_rfl, by kernel_rfl⟩
section
variable (Z : XT) (w0 : Base) (n : Nat) (R : RT) (σ : Store) (e_ : AV)
def b0 : Prop :=
  pcodeX (cx w0) 10 lv n cuts Z code 0 (argsE 0 [e_]) σ (finQ (cx w0) Tryd.f7 n R)
end
variable {Z : XT} {w0 : Base} {n : Nat} {R : RT} {σ τ : Store} {e_ : AV}
theorem b0_eq : b0 Z w0 n R σ e_ = (
  aBinK tabS 23 true .eql e_ (.pv (.raw .nilIface)) fun v => isB v fun b => condB b (FinK (cx w0) n (.pv (.int .i64 0)) (σ ++ [.cells 42 (AV.ofValue ti42.zero).cells]) R) (opt (aMakeInterface 52 (.ptr (List.length σ) 0)) fun t7 => SCalls (cx w0) errors_As.id [e_, t7] (σ ++ [.cells 42 (AV.ofValue ti42.zero).cells]) fun r σ' => isB r fun t8 => condB t8 (opt (aLoad σ' ti42 (.ptr (List.length σ) 0)) fun t9 => isI .i64 t9 fun t9_1 => FinK (cx w0) n (.pv (.int .i64 t9_1)) σ' R) (FinK (cx w0) n (.pv (.int .i64 (-1))) σ' R))) := by kernel_rfl
theorem calls (h : b0 (X w0 (List.length σ)) w0 (List.length σ) R σ e_) : SCalls (cx w0) selvagelaw25_num.id [e_] σ R :=
  xr_enter (cxOK w0) (x := fe) (S := cuts) (selvagelaw25_num.ok w0) (by kernel_rfl) h
attribute [irreducible] b0
end selvagelaw25_num
namespace selvagelaw25_FilediffSimilar
def lvs : List (List Nat) := [[0, 1], [0, 1], [0, 1], [0, 1], [0, 1, 5, 6], [0, 1, 5, 6], [0, 1, 5, 6, 7, 8], [0, 1, 5, 6, 7, 8], [0, 1, 5, 6, 7, 8], [0, 1, 5, 8, 31], [], [], [4], [0, 1, 5, 8], [0, 1, 5, 8], [0, 1, 5, 8], [0, 1, 5, 8, 9, 10], [0, 1, 5, 8, 9, 10], [4]]
def lv : Nat → List Nat := lvOf lvs
noncomputable def code : Code := bodyOf Tryd.f3
noncomputable def fe : FE := ⟨Tryd.f3, code, lv⟩
def cuts : List Nat := [9, 18]
abbrev X (w0 : Base) (n : Nat) : XT := xr (cx w0) 70 lv n
theorem ok (w0 : Base) : FOK (cx w0) selvagelaw25_FilediffSimilar.id fe := ⟨Tryd.func3, by kernel_rfl, by kernel_rfl⟩
section
variable (Z : XT) (w0 : Base) (n : Nat) (R : RT) (σ : Store) (a b : List UInt8) (p f : Int) (t31 t4 : Bool)
def q7 : QT := thenQ (fun env σ => pcodeX (cx w0) 70 lv n cuts Z (cAt code 14) 14 (prune (lv 14) env) σ (finQ (cx w0) Tryd.f3 n R)) (finQ (cx w0) Tryd.f3 n R)
def n9 : Prop :=
  Z (cAt code 9) 9 [(0, (.pv (.str a))), (1, (.pv (.str b))), (5, (.pv (.int .i64 p))), (8, (.pv (.int .i64 f))), (31, (.pv (.bool t31)))] σ (q7 Z w0 n R)
def b9 : Prop :=
  pcodeX (cx w0) 70 lv n cuts Z (cAt code 9) 9 [(0, (.pv (.str a))), (1, (.pv (.str b))), (5, (.pv (.int .i64 p))), (8, (.pv (.int .i64 f))), (31, (.pv (.bool t31)))] σ (q7 Z w0 n R)
def n18 : Prop :=
  Z (cAt code 18) 18 [(4, (.pv (.bool t4)))] σ (finQ (cx w0) Tryd.f3 n R)
def b18 : Prop :=
  pcodeX (cx w0) 70 lv n cuts Z (cAt code 18) 18 [(4, (.pv (.bool t4)))] σ (finQ (cx w0) Tryd.f3 n R)
def b0 : Prop :=
  pcodeX (cx w0) 70 lv n cuts Z code 0 (argsE 0 [(.pv (.str a)), (.pv (.str b))]) σ (finQ (cx w0) Tryd.f3 n R)
end
variable {Z : XT} {w0 : Base} {n : Nat} {R : RT} {σ τ : Store} {a b : List UInt8} {p f : Int} {t31 t4 : Bool}
theorem b9_eq : b9 Z w0 n R σ a b p f t31 = (
  condB t31 (FinK (cx w0) n (.pv (.bool false)) σ R) (SCalls (cx w0) filediff_Similarity.id [(.pv (.str b)), (.pv (.str a))] σ fun r σ' => isTup r fun vs => opt ((vs)[0]?) fun t36 => isI .i64 t36 fun t36_1 => isTup r fun vs_1 => opt ((vs_1)[1]?) fun t37 => condB ((t36_1 : Int) == p) (SCalls (cx w0) selvagelaw25_num.id [t37] σ' fun r_1 σ'_1 => isI .i64 r_1 fun t43 => condB ((t43 : Int) == f) (condB ((f : Int) != 0) (SCalls (cx w0) selvagelaw25_moved.id [] σ'_1 fun r_2 σ'_2 => isB r_2 fun t68 => n18 Z w0 n R σ'_2 t68) (condB (decide ((p : Int) ≥ 0)) (condB (decide ((p : Int) ≤ 100)) (aBinK tabS 4 false .eql (.pv (.bool ((p : Int) == 100))) (.pv (.bool ((a : List UInt8) == b))) fun v => isB v fun b_1 => condB b_1 (SCalls (cx w0) selvagelaw25_moved.id [] σ'_1 fun r_2 σ'_2 => isB r_2 fun t68 => n18 Z w0 n R σ'_2 t68) (n18 Z w0 n R σ'_1 false)) (n18 Z w0 n R σ'_1 false)) (n18 Z w0 n R σ'_1 false))) (n18 Z w0 n R σ'_1 false)) (n18 Z w0 n R σ' false))) := by kernel_rfl
theorem n9_in (h : b9 (X w0 n) w0 n R σ a b p f t31) : n9 (X w0 n) w0 n R σ a b p f t31 := xr_in (S := cuts) (by kernel_rfl) h
theorem b18_eq : b18 Z w0 n R σ t4 = (
  FinK (cx w0) n (.pv (.bool t4)) σ R) := by kernel_rfl
theorem n18_in (h : b18 (X w0 n) w0 n R σ t4) : n18 (X w0 n) w0 n R σ t4 := xr_in (S := cuts) (by kernel_rfl) h
theorem b0_eq : b0 Z w0 n R σ a b = (
  SCalls (cx w0) filediff_Similarity.id [(.pv (.str a)), (.pv (.str b))] σ fun r σ' => isTup r fun vs => opt ((vs)[0]?) fun t15 => isI .i64 t15 fun t15_1 => isTup r fun vs_1 => opt ((vs_1)[1]?) fun t16 => SCalls (cx w0) selvageref25_Similarity.id [(.pv (.str a)), (.pv (.str b))] σ' fun r_1 σ'_1 => isTup r_1 fun vs_2 => opt ((vs_2)[0]?) fun t21 => isI .i64 t21 fun t21_1 => isTup r_1 fun vs_3 => opt ((vs_3)[1]?) fun t22 => isI .i64 t22 fun t22_1 => condB ((t15_1 : Int) != t21_1) (n9 Z w0 n R σ'_1 a b t15_1 t22_1 true) (SCalls (cx w0) selvagelaw25_num.id [t16] σ'_1 fun r_2 σ'_2 => isI .i64 r_2 fun t28 => n9 Z w0 n R σ'_2 a b t15_1 t22_1 ((t28 : Int) != t22_1))) := by kernel_rfl
theorem calls (h : b0 (X w0 (List.length σ)) w0 (List.length σ) R σ a b) : SCalls (cx w0) selvagelaw25_FilediffSimilar.id [(.pv (.str a)), (.pv (.str b))] σ R :=
  xr_enter (cxOK w0) (x := fe) (S := cuts) (selvagelaw25_FilediffSimilar.ok w0) (by kernel_rfl) h
attribute [irreducible] n9 b9 n18 b18 b0
end selvagelaw25_FilediffSimilar
end Go.Sv
