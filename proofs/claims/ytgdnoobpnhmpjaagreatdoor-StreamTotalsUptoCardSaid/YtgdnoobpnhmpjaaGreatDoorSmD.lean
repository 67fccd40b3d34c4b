/- What the code of Go functions comes to over abstract stores, piece by piece; each equation by the kernel. Printed by a program of this session. -/
import Derived.Test.YtgdnoobpnhmpjaaGreatDoorSvT
import Derived.KernelRfl
set_option linter.unusedVariables false
set_option maxRecDepth 100000
namespace Go.Sv
open Go Go.Proofs
namespace selvageref28_named
def lvs : List (List Nat) := [[0], [0], [1], [1], [3], [3], [3], [3, 4], [3, 4], [3, 4], [3, 4], [3, 4], [3, 4, 17], [3, 4], [], [3, 4], [3, 4], [3, 4], [3, 4], [3, 4, 31], [3, 4], [3, 4], [2], [3, 4], [3, 4], [], [], [2]]
def lv : Nat → List Nat := lvOf lvs
noncomputable def code : Code := bodyOf Tryz.f39
noncomputable def fe : FE := ⟨Tryz.f39, code, lv⟩
def cuts : List Nat := [9, 19, 25]
abbrev X (w0 : Base) (n : Nat) : XT := xr (cx w0) 36 lv n
theorem ok (w0 : Base) : FOK (cx w0) selvageref28_named.id fe := ⟨Tryz.func39, by kernel_rfl, by kernel_rfl⟩
section
variable (Z : XT) (w0 : Base) (n : Nat) (R : RT) (σ : Store) (l_ : AV) (i : Int) (t31 : Bool) (s : AV)
def q5 : QT := thenQ (fun env σ => Z (cAt code 25) 25 (prune (lv 25) env) σ (finQ (cx w0) Tryz.f39 n R)) (finQ (cx w0) Tryz.f39 n R)
def q8 : QT := blockQ 0 (q5 Z w0 n R)
def q9 : QT := thenQ (fun env σ => Z (cAt code 8) 8 (prune (lv 8) env) σ (q8 Z w0 n R)) (q8 Z w0 n R)
def q16 : QT := thenQ (fun env σ => pcodeX (cx w0) 36 lv n cuts Z (cAt code 24) 24 (prune (lv 24) env) σ (q9 Z w0 n R)) (q9 Z w0 n R)
def q17 : QT := blockQ 1 (q16 Z w0 n R)
def n8 : Prop :=
  Z (cAt code 8) 8 [(3, l_), (4, (.pv (.int .i64 i)))] σ (q8 Z w0 n R)
def b9 : Prop :=
  pcodeX (cx w0) 36 lv n cuts Z (cAt code 9) 9 [(3, l_), (4, (.pv (.int .i64 i)))] σ (q9 Z w0 n R)
def n19 : Prop :=
  Z (cAt code 19) 19 [(3, l_), (4, (.pv (.int .i64 i))), (31, (.pv (.bool t31)))] σ (q17 Z w0 n R)
def b19 : Prop :=
  pcodeX (cx w0) 36 lv n cuts Z (cAt code 19) 19 [(3, l_), (4, (.pv (.int .i64 i))), (31, (.pv (.bool t31)))] σ (q17 Z w0 n R)
def n25 : Prop :=
  Z (cAt code 25) 25 [] σ (finQ (cx w0) Tryz.f39 n R)
def b25 : Prop :=
  pcodeX (cx w0) 36 lv n cuts Z (cAt code 25) 25 [] σ (finQ (cx w0) Tryz.f39 n R)
def b0 : Prop :=
  pcodeX (cx w0) 36 lv n cuts Z code 0 (argsE 0 [s]) σ (finQ (cx w0) Tryz.f39 n R)
end
variable {Z : XT} {w0 : Base} {n : Nat} {R : RT} {σ τ : Store} {l_ s l_' : AV} {i i' : Int} {t31 : Bool}
theorem n8_in (h : b9 (X w0 n) w0 n R σ l_ i) : n8 (X w0 n) w0 n R σ l_ i := xr_round (cxOK w0) (S := cuts) (by kernel_rfl : cAt code 8 = .loop (cAt code 9)) @h
theorem b9_eq : b9 Z w0 n R σ l_ i = (
  opt (aLen ti63.td l_) fun t16 => isI .i64 t16 fun t16_1 => condB (decide ((i : Int) < t16_1)) (opt (aIndexAddr σ tabS ti63.td l_ i) fun t22 => opt (aLoad σ ti9 t22) fun t23 => isS t23 fun t23_1 => condB (!((t23_1 : List UInt8) == [])) (opt (aIndexAddr σ tabS ti63.td l_ i) fun t28 => opt (aLoad σ ti9 t28) fun t29 => isS t29 fun t29_1 => n19 Z w0 n R σ l_ i (!((t29_1 : List UInt8) == [47, 100, 101, 118, 47, 110, 117, 108, 108]))) (n19 Z w0 n R σ l_ i false)) (n25 Z w0 n R σ)) := by kernel_rfl
theorem b19_eq : b19 Z w0 n R σ l_ i t31 = (
  condB t31 (opt (aIndexAddr σ tabS ti63.td l_ i) fun t34 => opt (aLoad σ ti9 t34) fun t35 => isS t35 fun t35_1 => FinK (cx w0) n (.pv (.str t35_1)) σ R) (n8 Z w0 n R σ l_ (IntKind.wrap .i64 (i + 1)))) := by kernel_rfl
theorem n19_in (h : b19 (X w0 n) w0 n R σ l_ i t31) : n19 (X w0 n) w0 n R σ l_ i t31 := xr_in (S := cuts) (by kernel_rfl) @h
theorem b25_eq : b25 Z w0 n R σ = (
  FinK (cx w0) n (.pv (.str [])) σ R) := by kernel_rfl
theorem n25_in (h : b25 (X w0 n) w0 n R σ) : n25 (X w0 n) w0 n R σ := xr_in (S := cuts) (by kernel_rfl) @h
theorem b0_eq : b0 Z w0 n R σ s = (
  ((AV.cells s).all AV.one = true ∧ (opt (aFieldAddr tabS ti31.td (.ptr (List.length σ) 0) 2) fun t5 => opt (aFieldAddr tabS ti28.td t5 0) fun t6 => opt (aLoad (σ ++ [.cells 31 (AV.cells s)]) ti9 t6) fun t7 => isS t7 fun t7_1 => opt (aFieldAddr tabS ti31.td (.ptr (List.length σ) 0) 1) fun t8 => opt (aFieldAddr tabS ti28.td t8 0) fun t9 => opt (aLoad (σ ++ [.cells 31 (AV.cells s)]) ti9 t9) fun t10 => isS t10 fun t10_1 => opt (aFieldAddr tabS ti31.td (.ptr (List.length σ) 0) 3) fun t11 => opt (aLoad (σ ++ [.cells 31 (AV.cells s)]) ti9 t11) fun t12 => isS t12 fun t12_1 => opt2 (aBuildSlice (σ ++ [.cells 31 (AV.cells s)]) ti9 false 3 [(0, (.pv (.str t7_1))), (1, (.pv (.str t10_1))), (2, (.pv (.str t12_1)))]) fun t13 σ' => n8 Z w0 n R σ' t13 0))) := by kernel_rfl
theorem calls (h : b0 (X w0 (List.length σ)) w0 (List.length σ) R σ s) : SCalls (cx w0) selvageref28_named.id [s] σ R :=
  xr_enter (cxOK w0) (x := fe) (S := cuts) (selvageref28_named.ok w0) (by kernel_rfl) @h
attribute [irreducible] n8 b9 n19 b19 n25 b25 b0
end selvageref28_named
namespace selvageref28_Counts
def lvs : List (List Nat) := [[0], [0], [0], [0], [0], [0, 4], [0, 4], [0, 4], [0, 4], [0, 4], [0, 4, 12], [0, 4], [0], [0, 4], [0, 4], [0, 4], [0, 4], [0, 4, 28], [], [], [2, 3], [0, 4], [0, 4], [0], [0], [0, 5], [0, 5], [0, 5], [0, 5, 6], [0, 5, 6], [0, 5, 6], [0, 5, 6], [0, 5, 6], [0, 5, 6, 32], [0, 5, 6], [5], [0, 5, 6], [0, 5, 6], [0, 5, 6], [0, 5, 6], [0, 5, 6, 7, 8], [0, 5, 6, 7, 8], [0, 5, 6, 7, 8], [0, 5, 6, 7, 8, 50], [8], [8], [2, 3], [0, 5, 6, 7], [0, 5, 6, 7], [0, 5, 6], [5], [5], [2, 3]]
def lv : Nat → List Nat := lvOf lvs
noncomputable def code : Code := bodyOf Tryz.f18
noncomputable def fe : FE := ⟨Tryz.f18, code, lv⟩
def cuts : List Nat := [7, 17, 23, 30, 50]
abbrev X (w0 : Base) (n : Nat) : XT := xr (cx w0) 57 lv n
theorem ok (w0 : Base) : FOK (cx w0) selvageref28_Counts.id fe := ⟨Tryz.func18, by kernel_rfl, by kernel_rfl⟩
section
variable (Z : XT) (w0 : Base) (n : Nat) (R : RT) (σ : Store) (l_ out : AV) (i : Int) (t28 : Bool)
def q3 : QT := thenQ (fun env σ => Z (cAt code 23) 23 (prune (lv 23) env) σ (finQ (cx w0) Tryz.f18 n R)) (finQ (cx w0) Tryz.f18 n R)
def q6 : QT := blockQ 0 (q3 Z w0 n R)
def q7 : QT := thenQ (fun env σ => Z (cAt code 6) 6 (prune (lv 6) env) σ (q6 Z w0 n R)) (q6 Z w0 n R)
def q14 : QT := thenQ (fun env σ => pcodeX (cx w0) 57 lv n cuts Z (cAt code 22) 22 (prune (lv 22) env) σ (q7 Z w0 n R)) (q7 Z w0 n R)
def q15 : QT := blockQ 1 (q14 Z w0 n R)
def q26 : QT := thenQ (fun env σ => Z (cAt code 50) 50 (prune (lv 50) env) σ (finQ (cx w0) Tryz.f18 n R)) (finQ (cx w0) Tryz.f18 n R)
def q29 : QT := blockQ 2 (q26 Z w0 n R)
def q30 : QT := thenQ (fun env σ => Z (cAt code 29) 29 (prune (lv 29) env) σ (q29 Z w0 n R)) (q29 Z w0 n R)
def n6 : Prop :=
  Z (cAt code 6) 6 [(0, l_), (4, (.pv (.int .i64 i)))] σ (q6 Z w0 n R)
def b7 : Prop :=
  pcodeX (cx w0) 57 lv n cuts Z (cAt code 7) 7 [(0, l_), (4, (.pv (.int .i64 i)))] σ (q7 Z w0 n R)
def n17 : Prop :=
  Z (cAt code 17) 17 [(0, l_), (4, (.pv (.int .i64 i))), (28, (.pv (.bool t28)))] σ (q15 Z w0 n R)
def b17 : Prop :=
  pcodeX (cx w0) 57 lv n cuts Z (cAt code 17) 17 [(0, l_), (4, (.pv (.int .i64 i))), (28, (.pv (.bool t28)))] σ (q15 Z w0 n R)
def n23 : Prop :=
  Z (cAt code 23) 23 [(0, l_)] σ (finQ (cx w0) Tryz.f18 n R)
def b23 : Prop :=
  pcodeX (cx w0) 57 lv n cuts Z (cAt code 23) 23 [(0, l_)] σ (finQ (cx w0) Tryz.f18 n R)
def n29 : Prop :=
  Z (cAt code 29) 29 [(0, l_), (5, out), (6, (.pv (.int .i64 i)))] σ (q29 Z w0 n R)
def b30 : Prop :=
  pcodeX (cx w0) 57 lv n cuts Z (cAt code 30) 30 [(0, l_), (5, out), (6, (.pv (.int .i64 i)))] σ (q30 Z w0 n R)
def n50 : Prop :=
  Z (cAt code 50) 50 [(5, out)] σ (finQ (cx w0) Tryz.f18 n R)
def b50 : Prop :=
  pcodeX (cx w0) 57 lv n cuts Z (cAt code 50) 50 [(5, out)] σ (finQ (cx w0) Tryz.f18 n R)
def b0 : Prop :=
  pcodeX (cx w0) 57 lv n cuts Z code 0 (argsE 0 [l_]) σ (finQ (cx w0) Tryz.f18 n R)
end
variable {Z : XT} {w0 : Base} {n : Nat} {R : RT} {σ τ : Store} {l_ out l_' out' : AV} {i i' : Int} {t28 : Bool}
theorem n6_in (h : b7 (X w0 n) w0 n R σ l_ i) : n6 (X w0 n) w0 n R σ l_ i := xr_round (cxOK w0) (S := cuts) (by kernel_rfl : cAt code 6 = .loop (cAt code 7)) @h
theorem b7_eq : b7 Z w0 n R σ l_ i = (
  opt (aLen ti22.td l_) fun t11 => isI .i64 t11 fun t11_1 => condB (decide ((i : Int) < t11_1)) (opt (aIndexAddr σ tabS ti22.td l_ i) fun t17 => opt (aFieldAddr tabS ti31.td t17 0) fun t18 => opt (aLoad σ ti3 t18) fun t19 => isI .i64 t19 fun t19_1 => condB ((t19_1 : Int) == 4) (n17 Z w0 n R σ l_ i true) (opt (aIndexAddr σ tabS ti22.td l_ i) fun t24 => opt (aLoad σ ti31 t24) fun t25 => SCalls (cx w0) selvageref28_named.id [t25] σ fun r σ' => isS r fun t26 => n17 Z w0 n R σ' l_ i ((t26 : List UInt8) == []))) (n23 Z w0 n R σ l_)) := by kernel_rfl
theorem b17_eq : b17 Z w0 n R σ l_ i t28 = (
  condB t28 (FinK (cx w0) n (.tup [.nilsl, (.pv (.int .i64 1))]) σ R) (n6 Z w0 n R σ l_ (IntKind.wrap .i64 (i + 1)))) := by kernel_rfl
theorem n17_in (h : b17 (X w0 n) w0 n R σ l_ i t28) : n17 (X w0 n) w0 n R σ l_ i t28 := xr_in (S := cuts) (by kernel_rfl) @h
theorem b23_eq : b23 Z w0 n R σ l_ = (
  n29 Z w0 n R σ l_ .nilsl 0) := by kernel_rfl
theorem n23_in (h : b23 (X w0 n) w0 n R σ l_) : n23 (X w0 n) w0 n R σ l_ := xr_in (S := cuts) (by kernel_rfl) @h
theorem n29_in (h : b30 (X w0 n) w0 n R σ l_ out i) : n29 (X w0 n) w0 n R σ l_ out i := xr_round (cxOK w0) (S := cuts) (by kernel_rfl : cAt code 29 = .loop (cAt code 30)) @h
theorem n29_weak (e : EWeak (cx w0) n [(0, l_), (5, out), (6, (.pv (.int .i64 i)))] σ [(0, l_'), (5, out'), (6, (.pv (.int .i64 i')))] τ) (h : n29 (X w0 n) w0 n R τ l_' out' i') : n29 (X w0 n) w0 n R σ l_ out i := xr_weak (L := lv) (k := 29) (by kernel_rfl : cAt code 29 = .loop (cAt code 30)) @e @h
theorem b30_eq : b30 Z w0 n R σ l_ out i = (
  opt (aLen ti22.td l_) fun t31 => isI .i64 t31 fun t31_1 => condB (decide ((i : Int) < t31_1)) (opt (aIndexAddr σ tabS ti22.td l_ i) fun t38 => opt (aLoad σ ti31 t38) fun t39 => opt (aIndexAddr σ tabS ti22.td l_ i) fun t43 => opt (aFieldAddr tabS ti31.td t43 4) fun t44 => opt (aLoad σ ti29 t44) fun t45 => aloneK (cx w0) selvageref28_named.id [t39] fun r => isS r fun t40 => aloneK (cx w0) selvageref16_Of.id [(.pv (.str t40)), t45] fun r_1 => isTup r_1 fun vs => opt ((vs)[0]?) fun t47 => isTup r_1 fun vs_1 => opt ((vs_1)[1]?) fun t48 => isI .i64 t48 fun t48_1 => opt (aStore (σ ++ [.cells 55 (AV.ofValue ti55.zero).cells]) ti55 (.ptr (List.length σ + 0) 0) t47) fun σ' => condB ((t48_1 : Int) != 0) (FinK (cx w0) n (.tup [.nilsl, (.pv (.int .i64 t48_1))]) σ' R) (opt (aLoad σ' ti55 (.ptr (List.length σ + 0) 0)) fun t53 => opt2 (aBuildSlice σ' ti55 false 1 [(0, t53)]) fun t54 σ'_1 => opt2 (aAppend σ'_1 ti55 out t54) fun t55 σ'_2 => n29 Z w0 n R σ'_2 l_ t55 (IntKind.wrap .i64 (i + 1)))) (n50 Z w0 n R σ out)) := by kernel_rfl
theorem b50_eq : b50 Z w0 n R σ out = (
  FinK (cx w0) n (.tup [out, (.pv (.int .i64 0))]) σ R) := by kernel_rfl
theorem n50_in (h : b50 (X w0 n) w0 n R σ out) : n50 (X w0 n) w0 n R σ out := xr_in (S := cuts) (by kernel_rfl) @h
theorem b0_eq : b0 Z w0 n R σ l_ = (
  n6 Z w0 n R σ l_ 0) := by kernel_rfl
theorem calls (h : b0 (X w0 (List.length σ)) w0 (List.length σ) R σ l_) : SCalls (cx w0) selvageref28_Counts.id [l_] σ R :=
  xr_enter (cxOK w0) (x := fe) (S := cuts) (selvageref28_Counts.ok w0) (by kernel_rfl) @h
attribute [irreducible] n6 b7 n17 b17 n23 b23 n29 b30 n50 b50 b0
end selvageref28_Counts
end Go.Sv
