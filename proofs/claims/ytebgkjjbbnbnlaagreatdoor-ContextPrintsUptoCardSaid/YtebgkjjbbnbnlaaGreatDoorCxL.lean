/- What the code of Go functions comes to over abstract stores, piece by piece; each equation by the kernel. Printed by a program of this session. -/
import Derived.Test.YtebgkjjbbnbnlaaGreatDoorSvT
import Derived.KernelRfl
set_option linter.unusedVariables false
set_option maxRecDepth 100000
namespace Go.Sv
open Go Go.Proofs
namespace selvagelaw12_num
def lvs : List (List Nat) := [[0], [0], [0], [0], [0], [0, 5], [], [], [2], [0], [0], [0], [0, 3], [0, 3], [0, 3], [3, 9], [], [], [2], [3], [3], [3], [2]]
def lv : Nat → List Nat := lvOf lvs
noncomputable def code : Code := bodyOf Tryz.f11
noncomputable def fe : FE := ⟨Tryz.f11, code, lv⟩
def cuts : List Nat := []
abbrev X (w0 : Base) (n : Nat) : XT := xr (cx w0) 11 lv n
def b0 (X : XT) (w0 : Base) (n : Nat) (R : RT) (σ : Store) (e_ : AV) : Prop :=
  pcodeX (cx w0) 11 lv n cuts X code 0 (argsE 0 [e_]) σ (finQ (cx w0) Tryz.f11 n R)
theorem b0_eq (X : XT) (w0 : Base) (n : Nat) (R : RT) (σ : Store) (e_ : AV) : b0 X w0 n R σ e_ = (
  aBinK tabS 29 true .eql e_ (.pv (.raw .nilIface)) fun v => isB v fun b => condB b (FinK (cx w0) n (.pv (.int .i64 0)) σ R) (opt (aMakeInterface 65 (.ptr (List.length σ) 0)) fun t7 => SCalls (cx w0) errors_As.id [e_, t7] (σ ++ [.cells 63 (AV.ofValue ti63.zero).cells]) fun r σ' => isB r fun t8 => condB (!t8) (FinK (cx w0) n (.pv (.int .i64 (-1))) σ' R) (opt (aLoad σ' ti63 (.ptr (List.length σ) 0)) fun t10 => isI .i64 t10 fun t10_1 => FinK (cx w0) n (.pv (.int .i64 t10_1)) σ' R))) := by kernel_rfl
theorem ok (w0 : Base) : FOK (cx w0) selvagelaw12_num.id fe := ⟨Tryz.func11, by kernel_rfl, by kernel_rfl⟩
theorem calls {w0 : Base} {R : RT} {σ : Store} {e_ : AV} (h : b0 (X w0 (List.length σ)) w0 (List.length σ) R σ e_) : SCalls (cx w0) selvagelaw12_num.id [e_] σ R :=
  xr_enter (cxOK w0) (x := fe) (S := cuts) (selvagelaw12_num.ok w0) (by kernel_rfl) h
end selvagelaw12_num
namespace selvagelaw12_same
def lvs : List (List Nat) := [[0, 1], [0, 1], [2, 3], [2, 3], [2, 3], [2, 3, 47], [], [], [4], [2, 3], [2, 3], [2, 3], [2, 3], [2, 3, 5], [2, 3, 5], [2, 3, 5], [2, 3, 5], [2, 3, 5], [2, 3, 5, 52], [2, 3, 5], [], [2, 3, 5], [2, 3, 5], [2, 3, 5], [2, 3, 5], [2, 3, 5, 65], [], [], [4], [2, 3, 5], [2, 3, 5], [], [], [4]]
def lv : Nat → List Nat := lvOf lvs
noncomputable def code : Code := bodyOf Tryz.f19
noncomputable def fe : FE := ⟨Tryz.f19, code, lv⟩
def cuts : List Nat := [5, 15, 31]
abbrev X (w0 : Base) (n : Nat) : XT := xr (cx w0) 66 lv n
def q3 (X : XT) (w0 : Base) (n : Nat) (R : RT) : QT := thenQ (fun env σ => pcodeX (cx w0) 66 lv n cuts X (cAt code 10) 10 (prune (lv 10) env) σ (finQ (cx w0) Tryz.f19 n R)) (finQ (cx w0) Tryz.f19 n R)
def q11 (X : XT) (w0 : Base) (n : Nat) (R : RT) : QT := thenQ (fun env σ => X (cAt code 31) 31 (prune (lv 31) env) σ (finQ (cx w0) Tryz.f19 n R)) (finQ (cx w0) Tryz.f19 n R)
def q14 (X : XT) (w0 : Base) (n : Nat) (R : RT) : QT := blockQ 0 (q11 X w0 n R)
def q15 (X : XT) (w0 : Base) (n : Nat) (R : RT) : QT := thenQ (fun env σ => X (cAt code 14) 14 (prune (lv 14) env) σ (q14 X w0 n R)) (q14 X w0 n R)
def n5 (X : XT) (w0 : Base) (n : Nat) (R : RT) (σ : Store) (a : AV) (b : AV) (t47 : Bool) : Prop :=
  X (cAt code 5) 5 [(2, a), (3, b), (47, (.pv (.bool t47)))] σ (q3 X w0 n R)
def b5 (X : XT) (w0 : Base) (n : Nat) (R : RT) (σ : Store) (a : AV) (b : AV) (t47 : Bool) : Prop :=
  pcodeX (cx w0) 66 lv n cuts X (cAt code 5) 5 [(2, a), (3, b), (47, (.pv (.bool t47)))] σ (q3 X w0 n R)
def n14 (X : XT) (w0 : Base) (n : Nat) (R : RT) (σ : Store) (a : AV) (b : AV) (i : Int) : Prop :=
  X (cAt code 14) 14 [(2, a), (3, b), (5, (.pv (.int .i64 i)))] σ (q14 X w0 n R)
def b15 (X : XT) (w0 : Base) (n : Nat) (R : RT) (σ : Store) (a : AV) (b : AV) (i : Int) : Prop :=
  pcodeX (cx w0) 66 lv n cuts X (cAt code 15) 15 [(2, a), (3, b), (5, (.pv (.int .i64 i)))] σ (q15 X w0 n R)
def n31 (X : XT) (w0 : Base) (n : Nat) (R : RT) (σ : Store) : Prop :=
  X (cAt code 31) 31 [] σ (finQ (cx w0) Tryz.f19 n R)
def b31 (X : XT) (w0 : Base) (n : Nat) (R : RT) (σ : Store) : Prop :=
  pcodeX (cx w0) 66 lv n cuts X (cAt code 31) 31 [] σ (finQ (cx w0) Tryz.f19 n R)
def b0 (X : XT) (w0 : Base) (n : Nat) (R : RT) (σ : Store) (a : AV) (b : AV) : Prop :=
  pcodeX (cx w0) 66 lv n cuts X code 0 (argsE 0 [a, b]) σ (finQ (cx w0) Tryz.f19 n R)
theorem b5_eq (X : XT) (w0 : Base) (n : Nat) (R : RT) (σ : Store) (a : AV) (b : AV) (t47 : Bool) : b5 X w0 n R σ a b t47 = (
  condB t47 (FinK (cx w0) n (.pv (.bool false)) σ R) (n14 X w0 n R σ a b 0)) := by kernel_rfl
theorem n5_in {w0 : Base} {n : Nat} {R : RT} {σ : Store} {a : AV} {b : AV} {t47 : Bool} (h : b5 (X w0 n) w0 n R σ a b t47) : n5 (X w0 n) w0 n R σ a b t47 := xr_in (S := cuts) (by kernel_rfl) h
theorem n14_in {w0 : Base} {n : Nat} {R : RT} {σ : Store} {a : AV} {b : AV} {i : Int} (h : b15 (X w0 n) w0 n R σ a b i) : n14 (X w0 n) w0 n R σ a b i := xr_round (cxOK w0) (S := cuts) (by kernel_rfl : cAt code 14 = .loop (cAt code 15)) h
theorem b15_eq (X : XT) (w0 : Base) (n : Nat) (R : RT) (σ : Store) (a : AV) (b : AV) (i : Int) : b15 X w0 n R σ a b i = (
  opt (aFieldAddr tabS ti39.td a 5) fun t49 => opt (aLoad σ ti37 t49) fun t50 => opt (aLen ti37.td t50) fun t51 => isI .i64 t51 fun t51_1 => condB (decide ((i : Int) < t51_1)) (opt (aFieldAddr tabS ti39.td a 5) fun t55 => opt (aLoad σ ti37 t55) fun t56 => opt (aIndexAddr σ tabS ti37.td t56 i) fun t58 => opt (aLoad σ ti51 t58) fun t59 => opt (aFieldAddr tabS ti39.td b 5) fun t60 => opt (aLoad σ ti37 t60) fun t61 => opt (aIndexAddr σ tabS ti37.td t61 i) fun t63 => opt (aLoad σ ti51 t63) fun t64 => aBinK tabS 51 false .neq t59 t64 fun v => isB v fun b_1 => condB b_1 (FinK (cx w0) n (.pv (.bool false)) σ R) (n14 X w0 n R σ a b (IntKind.wrap .i64 (i + 1)))) (n31 X w0 n R σ)) := by kernel_rfl
theorem b31_eq (X : XT) (w0 : Base) (n : Nat) (R : RT) (σ : Store) : b31 X w0 n R σ = (
  FinK (cx w0) n (.pv (.bool true)) σ R) := by kernel_rfl
theorem n31_in {w0 : Base} {n : Nat} {R : RT} {σ : Store} (h : b31 (X w0 n) w0 n R σ) : n31 (X w0 n) w0 n R σ := xr_in (S := cuts) (by kernel_rfl) h
theorem b0_eq (X : XT) (w0 : Base) (n : Nat) (R : RT) (σ : Store) (a : AV) (b : AV) : b0 X w0 n R σ a b = (
  ((AV.cells a).all AV.one = true ∧ (((AV.cells b).all AV.one = true ∧ (opt (aFieldAddr tabS ti39.td (.ptr (List.length σ) 0) 0) fun t6 => opt (aLoad ((σ ++ [.cells 39 (AV.cells a)]) ++ [.cells 39 (AV.cells b)]) ti3 t6) fun t7 => isI .i64 t7 fun t7_1 => opt (aFieldAddr tabS ti39.td (.ptr (List.length (σ ++ [.cells 39 (AV.cells a)])) 0) 0) fun t8 => opt (aLoad ((σ ++ [.cells 39 (AV.cells a)]) ++ [.cells 39 (AV.cells b)]) ti3 t8) fun t9 => isI .i64 t9 fun t9_1 => condB ((t7_1 : Int) != t9_1) (n5 X w0 n R ((σ ++ [.cells 39 (AV.cells a)]) ++ [.cells 39 (AV.cells b)]) (.ptr (List.length σ) 0) (.ptr (List.length (σ ++ [.cells 39 (AV.cells a)])) 0) true) (opt (aFieldAddr tabS ti39.td (.ptr (List.length σ) 0) 1) fun t12 => opt (aLoad ((σ ++ [.cells 39 (AV.cells a)]) ++ [.cells 39 (AV.cells b)]) ti3 t12) fun t13 => isI .i64 t13 fun t13_1 => opt (aFieldAddr tabS ti39.td (.ptr (List.length (σ ++ [.cells 39 (AV.cells a)])) 0) 1) fun t14 => opt (aLoad ((σ ++ [.cells 39 (AV.cells a)]) ++ [.cells 39 (AV.cells b)]) ti3 t14) fun t15 => isI .i64 t15 fun t15_1 => condB ((t13_1 : Int) != t15_1) (n5 X w0 n R ((σ ++ [.cells 39 (AV.cells a)]) ++ [.cells 39 (AV.cells b)]) (.ptr (List.length σ) 0) (.ptr (List.length (σ ++ [.cells 39 (AV.cells a)])) 0) true) (opt (aFieldAddr tabS ti39.td (.ptr (List.length σ) 0) 2) fun t19 => opt (aLoad ((σ ++ [.cells 39 (AV.cells a)]) ++ [.cells 39 (AV.cells b)]) ti3 t19) fun t20 => isI .i64 t20 fun t20_1 => opt (aFieldAddr tabS ti39.td (.ptr (List.length (σ ++ [.cells 39 (AV.cells a)])) 0) 2) fun t21 => opt (aLoad ((σ ++ [.cells 39 (AV.cells a)]) ++ [.cells 39 (AV.cells b)]) ti3 t21) fun t22 => isI .i64 t22 fun t22_1 => condB ((t20_1 : Int) != t22_1) (n5 X w0 n R ((σ ++ [.cells 39 (AV.cells a)]) ++ [.cells 39 (AV.cells b)]) (.ptr (List.length σ) 0) (.ptr (List.length (σ ++ [.cells 39 (AV.cells a)])) 0) true) (opt (aFieldAddr tabS ti39.td (.ptr (List.length σ) 0) 3) fun t26 => opt (aLoad ((σ ++ [.cells 39 (AV.cells a)]) ++ [.cells 39 (AV.cells b)]) ti3 t26) fun t27 => isI .i64 t27 fun t27_1 => opt (aFieldAddr tabS ti39.td (.ptr (List.length (σ ++ [.cells 39 (AV.cells a)])) 0) 3) fun t28 => opt (aLoad ((σ ++ [.cells 39 (AV.cells a)]) ++ [.cells 39 (AV.cells b)]) ti3 t28) fun t29 => isI .i64 t29 fun t29_1 => condB ((t27_1 : Int) != t29_1) (n5 X w0 n R ((σ ++ [.cells 39 (AV.cells a)]) ++ [.cells 39 (AV.cells b)]) (.ptr (List.length σ) 0) (.ptr (List.length (σ ++ [.cells 39 (AV.cells a)])) 0) true) (opt (aFieldAddr tabS ti39.td (.ptr (List.length σ) 0) 4) fun t33 => opt (aLoad ((σ ++ [.cells 39 (AV.cells a)]) ++ [.cells 39 (AV.cells b)]) ti9 t33) fun t34 => isS t34 fun t34_1 => opt (aFieldAddr tabS ti39.td (.ptr (List.length (σ ++ [.cells 39 (AV.cells a)])) 0) 4) fun t35 => opt (aLoad ((σ ++ [.cells 39 (AV.cells a)]) ++ [.cells 39 (AV.cells b)]) ti9 t35) fun t36 => isS t36 fun t36_1 => condB (!((t34_1 : List UInt8) == t36_1)) (n5 X w0 n R ((σ ++ [.cells 39 (AV.cells a)]) ++ [.cells 39 (AV.cells b)]) (.ptr (List.length σ) 0) (.ptr (List.length (σ ++ [.cells 39 (AV.cells a)])) 0) true) (opt (aFieldAddr tabS ti39.td (.ptr (List.length σ) 0) 5) fun t40 => opt (aLoad ((σ ++ [.cells 39 (AV.cells a)]) ++ [.cells 39 (AV.cells b)]) ti37 t40) fun t41 => opt (aLen ti37.td t41) fun t42 => isI .i64 t42 fun t42_1 => opt (aFieldAddr tabS ti39.td (.ptr (List.length (σ ++ [.cells 39 (AV.cells a)])) 0) 5) fun t43 => opt (aLoad ((σ ++ [.cells 39 (AV.cells a)]) ++ [.cells 39 (AV.cells b)]) ti37 t43) fun t44 => opt (aLen ti37.td t44) fun t45 => isI .i64 t45 fun t45_1 => n5 X w0 n R ((σ ++ [.cells 39 (AV.cells a)]) ++ [.cells 39 (AV.cells b)]) (.ptr (List.length σ) 0) (.ptr (List.length (σ ++ [.cells 39 (AV.cells a)])) 0) ((t42_1 : Int) != t45_1))))))))))) := by kernel_rfl
theorem ok (w0 : Base) : FOK (cx w0) selvagelaw12_same.id fe := ⟨Tryz.func19, by kernel_rfl, by kernel_rfl⟩
theorem calls {w0 : Base} {R : RT} {σ : Store} {a : AV} {b : AV} (h : b0 (X w0 (List.length σ)) w0 (List.length σ) R σ a b) : SCalls (cx w0) selvagelaw12_same.id [a, b] σ R :=
  xr_enter (cxOK w0) (x := fe) (S := cuts) (selvagelaw12_same.ok w0) (by kernel_rfl) h
end selvagelaw12_same
namespace selvagelaw12_sameAll
def lvs : List (List Nat) := [[0, 1], [0, 1], [0, 1], [0, 1], [0, 1], [0, 1, 10], [], [], [4], [0, 1], [0, 1], [0, 1], [0, 1], [0, 1, 5], [0, 1, 5], [0, 1, 5], [0, 1, 5], [0, 1, 5], [0, 1, 5, 14], [0, 1, 5], [], [0, 1, 5], [0, 1, 5], [0, 1, 5], [0, 1, 5], [0, 1, 5, 26], [], [], [4], [0, 1, 5], [0, 1, 5], [], [], [4]]
def lv : Nat → List Nat := lvOf lvs
noncomputable def code : Code := bodyOf Tryz.f12
noncomputable def fe : FE := ⟨Tryz.f12, code, lv⟩
def cuts : List Nat := [15, 31]
abbrev X (w0 : Base) (n : Nat) : XT := xr (cx w0) 27 lv n
def q11 (X : XT) (w0 : Base) (n : Nat) (R : RT) : QT := thenQ (fun env σ => X (cAt code 31) 31 (prune (lv 31) env) σ (finQ (cx w0) Tryz.f12 n R)) (finQ (cx w0) Tryz.f12 n R)
def q14 (X : XT) (w0 : Base) (n : Nat) (R : RT) : QT := blockQ 0 (q11 X w0 n R)
def q15 (X : XT) (w0 : Base) (n : Nat) (R : RT) : QT := thenQ (fun env σ => X (cAt code 14) 14 (prune (lv 14) env) σ (q14 X w0 n R)) (q14 X w0 n R)
def n14 (X : XT) (w0 : Base) (n : Nat) (R : RT) (σ : Store) (a : AV) (b : AV) (i : Int) : Prop :=
  X (cAt code 14) 14 [(0, a), (1, b), (5, (.pv (.int .i64 i)))] σ (q14 X w0 n R)
def b15 (X : XT) (w0 : Base) (n : Nat) (R : RT) (σ : Store) (a : AV) (b : AV) (i : Int) : Prop :=
  pcodeX (cx w0) 27 lv n cuts X (cAt code 15) 15 [(0, a), (1, b), (5, (.pv (.int .i64 i)))] σ (q15 X w0 n R)
def n31 (X : XT) (w0 : Base) (n : Nat) (R : RT) (σ : Store) : Prop :=
  X (cAt code 31) 31 [] σ (finQ (cx w0) Tryz.f12 n R)
def b31 (X : XT) (w0 : Base) (n : Nat) (R : RT) (σ : Store) : Prop :=
  pcodeX (cx w0) 27 lv n cuts X (cAt code 31) 31 [] σ (finQ (cx w0) Tryz.f12 n R)
def b0 (X : XT) (w0 : Base) (n : Nat) (R : RT) (σ : Store) (a : AV) (b : AV) : Prop :=
  pcodeX (cx w0) 27 lv n cuts X code 0 (argsE 0 [a, b]) σ (finQ (cx w0) Tryz.f12 n R)
theorem n14_in {w0 : Base} {n : Nat} {R : RT} {σ : Store} {a : AV} {b : AV} {i : Int} (h : b15 (X w0 n) w0 n R σ a b i) : n14 (X w0 n) w0 n R σ a b i := xr_round (cxOK w0) (S := cuts) (by kernel_rfl : cAt code 14 = .loop (cAt code 15)) h
theorem b15_eq (X : XT) (w0 : Base) (n : Nat) (R : RT) (σ : Store) (a : AV) (b : AV) (i : Int) : b15 X w0 n R σ a b i = (
  opt (aLen ti24.td a) fun t13 => isI .i64 t13 fun t13_1 => condB (decide ((i : Int) < t13_1)) (opt (aIndexAddr σ tabS ti24.td a i) fun t19 => opt (aLoad σ ti39 t19) fun t20 => opt (aIndexAddr σ tabS ti24.td b i) fun t23 => opt (aLoad σ ti39 t23) fun t24 => SCalls (cx w0) selvagelaw12_same.id [t20, t24] σ fun r σ' => isB r fun t25 => condB (!t25) (FinK (cx w0) n (.pv (.bool false)) σ' R) (n14 X w0 n R σ' a b (IntKind.wrap .i64 (i + 1)))) (n31 X w0 n R σ)) := by kernel_rfl
theorem b31_eq (X : XT) (w0 : Base) (n : Nat) (R : RT) (σ : Store) : b31 X w0 n R σ = (
  FinK (cx w0) n (.pv (.bool true)) σ R) := by kernel_rfl
theorem n31_in {w0 : Base} {n : Nat} {R : RT} {σ : Store} (h : b31 (X w0 n) w0 n R σ) : n31 (X w0 n) w0 n R σ := xr_in (S := cuts) (by kernel_rfl) h
theorem b0_eq (X : XT) (w0 : Base) (n : Nat) (R : RT) (σ : Store) (a : AV) (b : AV) : b0 X w0 n R σ a b = (
  opt (aLen ti24.td a) fun t7 => isI .i64 t7 fun t7_1 => opt (aLen ti24.td b) fun t9 => isI .i64 t9 fun t9_1 => condB ((t7_1 : Int) != t9_1) (FinK (cx w0) n (.pv (.bool false)) σ R) (n14 X w0 n R σ a b 0)) := by kernel_rfl
theorem ok (w0 : Base) : FOK (cx w0) selvagelaw12_sameAll.id fe := ⟨Tryz.func12, by kernel_rfl, by kernel_rfl⟩
theorem calls {w0 : Base} {R : RT} {σ : Store} {a : AV} {b : AV} (h : b0 (X w0 (List.length σ)) w0 (List.length σ) R σ a b) : SCalls (cx w0) selvagelaw12_sameAll.id [a, b] σ R :=
  xr_enter (cxOK w0) (x := fe) (S := cuts) (selvagelaw12_sameAll.ok w0) (by kernel_rfl) h
end selvagelaw12_sameAll
namespace selvagelaw12_twins
def lvs : List (List Nat) := [[0], [0], [0], [0], [0, 3], [0, 3], [0, 3], [0, 3, 4], [0, 3, 4], [0, 3, 4], [0, 3, 4], [0, 3, 4], [0, 3, 4, 10], [0, 3, 4], [3], [0, 3, 4], [0, 3, 4], [0, 3, 4], [0, 3, 4], [0, 3, 4, 5], [0, 3, 4, 5], [0, 3, 4, 5, 6], [0, 3, 4, 5, 6], [0, 3, 4, 5], [0, 3, 4], [3], [3], [2]]
def lv : Nat → List Nat := lvOf lvs
noncomputable def code : Code := bodyOf Tryz.f8
noncomputable def fe : FE := ⟨Tryz.f8, code, lv⟩
def cuts : List Nat := [9, 25]
abbrev X (w0 : Base) (n : Nat) : XT := xr (cx w0) 27 lv n
def q5 (X : XT) (w0 : Base) (n : Nat) (R : RT) : QT := thenQ (fun env σ => X (cAt code 25) 25 (prune (lv 25) env) σ (finQ (cx w0) Tryz.f8 n R)) (finQ (cx w0) Tryz.f8 n R)
def q8 (X : XT) (w0 : Base) (n : Nat) (R : RT) : QT := blockQ 0 (q5 X w0 n R)
def q9 (X : XT) (w0 : Base) (n : Nat) (R : RT) : QT := thenQ (fun env σ => X (cAt code 8) 8 (prune (lv 8) env) σ (q8 X w0 n R)) (q8 X w0 n R)
def n8 (X : XT) (w0 : Base) (n : Nat) (R : RT) (σ : Store) (l_ : AV) (out : AV) (i : Int) : Prop :=
  X (cAt code 8) 8 [(0, l_), (3, out), (4, (.pv (.int .i64 i)))] σ (q8 X w0 n R)
def b9 (X : XT) (w0 : Base) (n : Nat) (R : RT) (σ : Store) (l_ : AV) (out : AV) (i : Int) : Prop :=
  pcodeX (cx w0) 27 lv n cuts X (cAt code 9) 9 [(0, l_), (3, out), (4, (.pv (.int .i64 i)))] σ (q9 X w0 n R)
def n25 (X : XT) (w0 : Base) (n : Nat) (R : RT) (σ : Store) (out : AV) : Prop :=
  X (cAt code 25) 25 [(3, out)] σ (finQ (cx w0) Tryz.f8 n R)
def b25 (X : XT) (w0 : Base) (n : Nat) (R : RT) (σ : Store) (out : AV) : Prop :=
  pcodeX (cx w0) 27 lv n cuts X (cAt code 25) 25 [(3, out)] σ (finQ (cx w0) Tryz.f8 n R)
def b0 (X : XT) (w0 : Base) (n : Nat) (R : RT) (σ : Store) (l_ : AV) : Prop :=
  pcodeX (cx w0) 27 lv n cuts X code 0 (argsE 0 [l_]) σ (finQ (cx w0) Tryz.f8 n R)
theorem n8_in {w0 : Base} {n : Nat} {R : RT} {σ : Store} {l_ : AV} {out : AV} {i : Int} (h : b9 (X w0 n) w0 n R σ l_ out i) : n8 (X w0 n) w0 n R σ l_ out i := xr_round (cxOK w0) (S := cuts) (by kernel_rfl : cAt code 8 = .loop (cAt code 9)) h
theorem n8_weak {w0 : Base} {n : Nat} {R : RT} {σ τ : Store} {l_ : AV} {out : AV} {i : Int} {l_' : AV} {out' : AV} {i' : Int} (e : EWeak (cx w0) n [(0, l_), (3, out), (4, (.pv (.int .i64 i)))] σ [(0, l_'), (3, out'), (4, (.pv (.int .i64 i')))] τ) (h : n8 (X w0 n) w0 n R τ l_' out' i') : n8 (X w0 n) w0 n R σ l_ out i := xr_weak (L := lv) (k := 8) (by kernel_rfl : cAt code 8 = .loop (cAt code 9)) e h
theorem b9_eq (X : XT) (w0 : Base) (n : Nat) (R : RT) (σ : Store) (l_ : AV) (out : AV) (i : Int) : b9 X w0 n R σ l_ out i = (
  opt (aLen ti24.td l_) fun t9 => isI .i64 t9 fun t9_1 => condB (decide ((i : Int) < t9_1)) (opt (aIndexAddr σ tabS ti24.td l_ i) fun t15 => opt (aLoad σ ti39 t15) fun t16 => opt (aStore (σ ++ [.cells 39 (AV.ofValue ti39.zero).cells]) ti39 (.ptr (List.length σ) 0) t16) fun σ' => opt (aFieldAddr tabS ti39.td (.ptr (List.length σ) 0) 5) fun t18 => opt (aLoad σ' ti37 t18) fun t19 => opt2 (aAppendB true σ' ti51 .nilsl t19) fun t20 σ'_1 => opt (aFieldAddr tabS ti39.td (.ptr (List.length σ) 0) 5) fun t21 => opt (aStore σ'_1 ti37 t21 t20) fun σ'_2 => opt (aLoad σ'_2 ti39 (.ptr (List.length σ) 0)) fun t23 => opt2 (aBuildSlice σ'_2 ti39 false 1 [(0, t23)]) fun t24 σ'_3 => opt2 (aAppend σ'_3 ti39 out t24) fun t25 σ'_4 => n8 X w0 n R σ'_4 l_ t25 (IntKind.wrap .i64 (i + 1))) (n25 X w0 n R σ out)) := by kernel_rfl
theorem b25_eq (X : XT) (w0 : Base) (n : Nat) (R : RT) (σ : Store) (out : AV) : b25 X w0 n R σ out = (
  FinK (cx w0) n out σ R) := by kernel_rfl
theorem n25_in {w0 : Base} {n : Nat} {R : RT} {σ : Store} {out : AV} (h : b25 (X w0 n) w0 n R σ out) : n25 (X w0 n) w0 n R σ out := xr_in (S := cuts) (by kernel_rfl) h
theorem b0_eq (X : XT) (w0 : Base) (n : Nat) (R : RT) (σ : Store) (l_ : AV) : b0 X w0 n R σ l_ = (
  n8 X w0 n R σ l_ .nilsl 0) := by kernel_rfl
theorem ok (w0 : Base) : FOK (cx w0) selvagelaw12_twins.id fe := ⟨Tryz.func8, by kernel_rfl, by kernel_rfl⟩
theorem calls {w0 : Base} {R : RT} {σ : Store} {l_ : AV} (h : b0 (X w0 (List.length σ)) w0 (List.length σ) R σ l_) : SCalls (cx w0) selvagelaw12_twins.id [l_] σ R :=
  xr_enter (cxOK w0) (x := fe) (S := cuts) (selvagelaw12_twins.ok w0) (by kernel_rfl) h
end selvagelaw12_twins
namespace selvagelaw12_ContextPrints
def lvs : List (List Nat) := [[0], [0], [1], [1], [1, 3], [1, 3], [1, 3, 4, 5], [1, 3, 4, 5], [1, 3, 4, 5, 6, 7], [1, 3, 4, 5, 6, 7], [1, 3, 4, 5, 6, 7], [1, 3, 50], [], [], [2], [1, 3], [1, 3], [1, 3], [1, 3], [1, 3, 8], [1, 3, 8], [1, 3, 8], [1, 3, 8], [1, 3, 8], [1, 3, 8, 54], [1, 3, 8], [], [1, 3, 8], [1, 3, 8], [1, 3, 8], [1, 3, 8], [1, 3, 8, 9, 10], [1, 3, 8, 9, 10], [1, 3, 8, 9, 10, 11, 12], [1, 3, 8, 9, 10, 11, 12], [1, 3, 8, 82], [], [], [2], [1, 3, 8], [1, 3, 8], [], [], [2]]
def lv : Nat → List Nat := lvOf lvs
noncomputable def code : Code := bodyOf Tryz.f3
noncomputable def fe : FE := ⟨Tryz.f3, code, lv⟩
def cuts : List Nat := [11, 21, 35, 41]
abbrev X (w0 : Base) (n : Nat) : XT := xr (cx w0) 84 lv n
def q9 (X : XT) (w0 : Base) (n : Nat) (R : RT) : QT := thenQ (fun env σ => pcodeX (cx w0) 84 lv n cuts X (cAt code 16) 16 (prune (lv 16) env) σ (finQ (cx w0) Tryz.f3 n R)) (finQ (cx w0) Tryz.f3 n R)
def q17 (X : XT) (w0 : Base) (n : Nat) (R : RT) : QT := thenQ (fun env σ => X (cAt code 41) 41 (prune (lv 41) env) σ (finQ (cx w0) Tryz.f3 n R)) (finQ (cx w0) Tryz.f3 n R)
def q20 (X : XT) (w0 : Base) (n : Nat) (R : RT) : QT := blockQ 0 (q17 X w0 n R)
def q21 (X : XT) (w0 : Base) (n : Nat) (R : RT) : QT := thenQ (fun env σ => X (cAt code 20) 20 (prune (lv 20) env) σ (q20 X w0 n R)) (q20 X w0 n R)
def q28 (X : XT) (w0 : Base) (n : Nat) (R : RT) : QT := thenQ (fun env σ => pcodeX (cx w0) 84 lv n cuts X (cAt code 40) 40 (prune (lv 40) env) σ (q21 X w0 n R)) (q21 X w0 n R)
def q29 (X : XT) (w0 : Base) (n : Nat) (R : RT) : QT := blockQ 1 (q28 X w0 n R)
def n11 (X : XT) (w0 : Base) (n : Nat) (R : RT) (σ : Store) (j : AV) (mine : AV) (t50 : Bool) : Prop :=
  X (cAt code 11) 11 [(1, j), (3, mine), (50, (.pv (.bool t50)))] σ (q9 X w0 n R)
def b11 (X : XT) (w0 : Base) (n : Nat) (R : RT) (σ : Store) (j : AV) (mine : AV) (t50 : Bool) : Prop :=
  pcodeX (cx w0) 84 lv n cuts X (cAt code 11) 11 [(1, j), (3, mine), (50, (.pv (.bool t50)))] σ (q9 X w0 n R)
def n20 (X : XT) (w0 : Base) (n : Nat) (R : RT) (σ : Store) (j : AV) (mine : AV) (i : Int) : Prop :=
  X (cAt code 20) 20 [(1, j), (3, mine), (8, (.pv (.int .i64 i)))] σ (q20 X w0 n R)
def b21 (X : XT) (w0 : Base) (n : Nat) (R : RT) (σ : Store) (j : AV) (mine : AV) (i : Int) : Prop :=
  pcodeX (cx w0) 84 lv n cuts X (cAt code 21) 21 [(1, j), (3, mine), (8, (.pv (.int .i64 i)))] σ (q21 X w0 n R)
def n35 (X : XT) (w0 : Base) (n : Nat) (R : RT) (σ : Store) (j : AV) (mine : AV) (i : Int) (t82 : Bool) : Prop :=
  X (cAt code 35) 35 [(1, j), (3, mine), (8, (.pv (.int .i64 i))), (82, (.pv (.bool t82)))] σ (q29 X w0 n R)
def b35 (X : XT) (w0 : Base) (n : Nat) (R : RT) (σ : Store) (j : AV) (mine : AV) (i : Int) (t82 : Bool) : Prop :=
  pcodeX (cx w0) 84 lv n cuts X (cAt code 35) 35 [(1, j), (3, mine), (8, (.pv (.int .i64 i))), (82, (.pv (.bool t82)))] σ (q29 X w0 n R)
def n41 (X : XT) (w0 : Base) (n : Nat) (R : RT) (σ : Store) : Prop :=
  X (cAt code 41) 41 [] σ (finQ (cx w0) Tryz.f3 n R)
def b41 (X : XT) (w0 : Base) (n : Nat) (R : RT) (σ : Store) : Prop :=
  pcodeX (cx w0) 84 lv n cuts X (cAt code 41) 41 [] σ (finQ (cx w0) Tryz.f3 n R)
def b0 (X : XT) (w0 : Base) (n : Nat) (R : RT) (σ : Store) (j : AV) : Prop :=
  pcodeX (cx w0) 84 lv n cuts X code 0 (argsE 0 [j]) σ (finQ (cx w0) Tryz.f3 n R)
theorem b11_eq (X : XT) (w0 : Base) (n : Nat) (R : RT) (σ : Store) (j : AV) (mine : AV) (t50 : Bool) : b11 X w0 n R σ j mine t50 = (
  condB t50 (FinK (cx w0) n (.pv (.bool false)) σ R) (n20 X w0 n R σ j mine 0)) := by kernel_rfl
theorem n11_in {w0 : Base} {n : Nat} {R : RT} {σ : Store} {j : AV} {mine : AV} {t50 : Bool} (h : b11 (X w0 n) w0 n R σ j mine t50) : n11 (X w0 n) w0 n R σ j mine t50 := xr_in (S := cuts) (by kernel_rfl) h
theorem n20_in {w0 : Base} {n : Nat} {R : RT} {σ : Store} {j : AV} {mine : AV} {i : Int} (h : b21 (X w0 n) w0 n R σ j mine i) : n20 (X w0 n) w0 n R σ j mine i := xr_round (cxOK w0) (S := cuts) (by kernel_rfl : cAt code 20 = .loop (cAt code 21)) h
theorem b21_eq (X : XT) (w0 : Base) (n : Nat) (R : RT) (σ : Store) (j : AV) (mine : AV) (i : Int) : b21 X w0 n R σ j mine i = (
  opt (aLen ti24.td mine) fun t53 => isI .i64 t53 fun t53_1 => condB (decide ((i : Int) < t53_1)) (opt (aIndexAddr σ tabS ti24.td mine i) fun t60 => opt (aLoad σ ti39 t60) fun t61 => SCalls (cx w0) context_Hunk.id [t61] σ fun r σ' => isTup r fun vs => opt ((vs)[0]?) fun t63 => isS t63 fun t63_1 => isTup r fun vs_1 => opt ((vs_1)[1]?) fun t64 => opt (aFieldAddr tabS ti26.td j 2) fun t66 => opt (aLoad σ' ti24 t66) fun t67 => opt (aIndexAddr σ' tabS ti24.td t67 i) fun t69 => opt (aLoad σ' ti39 t69) fun t70 => SCalls (cx w0) selvageref12_Hunk.id [t70] σ' fun r_1 σ'_1 => isTup r_1 fun vs_2 => opt ((vs_2)[0]?) fun t72 => isS t72 fun t72_1 => isTup r_1 fun vs_3 => opt ((vs_3)[1]?) fun t73 => isI .i64 t73 fun t73_1 => condB (!((t63_1 : List UInt8) == t72_1)) (n35 X w0 n R σ'_1 j mine i true) (SCalls (cx w0) selvagelaw12_num.id [t64] σ'_1 fun r_2 σ'_2 => isI .i64 r_2 fun t79 => n35 X w0 n R σ'_2 j mine i ((t79 : Int) != t73_1))) (n41 X w0 n R σ)) := by kernel_rfl
theorem b35_eq (X : XT) (w0 : Base) (n : Nat) (R : RT) (σ : Store) (j : AV) (mine : AV) (i : Int) (t82 : Bool) : b35 X w0 n R σ j mine i t82 = (
  condB t82 (FinK (cx w0) n (.pv (.bool false)) σ R) (n20 X w0 n R σ j mine (IntKind.wrap .i64 (i + 1)))) := by kernel_rfl
theorem n35_in {w0 : Base} {n : Nat} {R : RT} {σ : Store} {j : AV} {mine : AV} {i : Int} {t82 : Bool} (h : b35 (X w0 n) w0 n R σ j mine i t82) : n35 (X w0 n) w0 n R σ j mine i t82 := xr_in (S := cuts) (by kernel_rfl) h
theorem b41_eq (X : XT) (w0 : Base) (n : Nat) (R : RT) (σ : Store) : b41 X w0 n R σ = (
  SCalls (cx w0) selvagelaw12_works.id [] σ fun r σ' => isB r fun t83 => FinK (cx w0) n (.pv (.bool t83)) σ' R) := by kernel_rfl
theorem n41_in {w0 : Base} {n : Nat} {R : RT} {σ : Store} (h : b41 (X w0 n) w0 n R σ) : n41 (X w0 n) w0 n R σ := xr_in (S := cuts) (by kernel_rfl) h
theorem b0_eq (X : XT) (w0 : Base) (n : Nat) (R : RT) (σ : Store) (j : AV) : b0 X w0 n R σ j = (
  ((AV.cells j).all AV.one = true ∧ (opt (aFieldAddr tabS ti26.td (.ptr (List.length σ) 0) 2) fun t13 => opt (aLoad (σ ++ [.cells 26 (AV.cells j)]) ti24 t13) fun t14 => SCalls (cx w0) selvagelaw12_twins.id [t14] (σ ++ [.cells 26 (AV.cells j)]) fun r σ' => opt (aFieldAddr tabS ti26.td (.ptr (List.length σ) 0) 0) fun t17 => opt (aLoad σ' ti23 t17) fun t18 => opt (aFieldAddr tabS ti26.td (.ptr (List.length σ) 0) 1) fun t19 => opt (aLoad σ' ti23 t19) fun t20 => SCalls (cx w0) context_Print.id [t18, t20, r] σ' fun r_1 σ'_1 => isTup r_1 fun vs => opt ((vs)[0]?) fun t23 => isS t23 fun t23_1 => isTup r_1 fun vs_1 => opt ((vs_1)[1]?) fun t24 => opt (aFieldAddr tabS ti26.td (.ptr (List.length σ) 0) 0) fun t26 => opt (aLoad σ'_1 ti23 t26) fun t27 => opt (aFieldAddr tabS ti26.td (.ptr (List.length σ) 0) 1) fun t28 => opt (aLoad σ'_1 ti23 t28) fun t29 => opt (aFieldAddr tabS ti26.td (.ptr (List.length σ) 0) 2) fun t30 => opt (aLoad σ'_1 ti24 t30) fun t31 => SCalls (cx w0) selvageref12_Print.id [t27, t29, t31] σ'_1 fun r_2 σ'_2 => isTup r_2 fun vs_2 => opt ((vs_2)[0]?) fun t33 => isS t33 fun t33_1 => isTup r_2 fun vs_3 => opt ((vs_3)[1]?) fun t34 => isI .i64 t34 fun t34_1 => condB (!((t23_1 : List UInt8) == t33_1)) (n11 X w0 n R σ'_2 (.ptr (List.length σ) 0) r true) (SCalls (cx w0) selvagelaw12_num.id [t24] σ'_2 fun r_3 σ'_3 => isI .i64 r_3 fun t40 => condB ((t40 : Int) != t34_1) (n11 X w0 n R σ'_3 (.ptr (List.length σ) 0) r true) (opt (aFieldAddr tabS ti26.td (.ptr (List.length σ) 0) 2) fun t46 => opt (aLoad σ'_3 ti24 t46) fun t47 => SCalls (cx w0) selvagelaw12_sameAll.id [r, t47] σ'_3 fun r_4 σ'_4 => isB r_4 fun t48 => n11 X w0 n R σ'_4 (.ptr (List.length σ) 0) r (!t48)))))) := by kernel_rfl
theorem ok (w0 : Base) : FOK (cx w0) selvagelaw12_ContextPrints.id fe := ⟨Tryz.func3, by kernel_rfl, by kernel_rfl⟩
theorem calls {w0 : Base} {R : RT} {σ : Store} {j : AV} (h : b0 (X w0 (List.length σ)) w0 (List.length σ) R σ j) : SCalls (cx w0) selvagelaw12_ContextPrints.id [j] σ R :=
  xr_enter (cxOK w0) (x := fe) (S := cuts) (selvagelaw12_ContextPrints.ok w0) (by kernel_rfl) h
end selvagelaw12_ContextPrints
end Go.Sv
