/- What the code of Go functions comes to over abstract stores, piece by piece; each equation by the kernel. Printed by a program of this session. -/
import Derived.Test.YtjonnhjaiiingaaGreatDoorSvT
import Derived.KernelRfl
set_option linter.unusedVariables false
set_option maxRecDepth 100000
namespace Go.Sv
open Go Go.Proofs
namespace unified_header
def lvs : List (List Nat) := [[0], [0], [1], [1], [1], [1, 17], [], [], [2, 3], [1], [1], [1], [1, 4], [1, 4], [1, 4], [1, 4, 23], [1, 4], [4], [4], [4], [2, 3]]
def lv : Nat → List Nat := lvOf lvs
noncomputable def code : Code := bodyOf Tryz.f15
noncomputable def fe : FE := ⟨Tryz.f15, code, lv⟩
theorem ok (w0 : Base) : FOK (cx w0) unified_header.id fe := ⟨Tryz.func15, by kernel_rfl, by kernel_rfl⟩
end unified_header
namespace unified_span
def lvs : List (List Nat) := [[0, 1], [0, 1], [0, 1], [0, 1], [0, 1], [0, 1, 6], [0], [0], [4], [0, 1], [0, 1], [0, 1], [4]]
def lv : Nat → List Nat := lvOf lvs
noncomputable def code : Code := bodyOf Tryz.f23
noncomputable def fe : FE := ⟨Tryz.f23, code, lv⟩
theorem ok (w0 : Base) : FOK (cx w0) unified_span.id fe := ⟨Tryz.func23, by kernel_rfl, by kernel_rfl⟩
end unified_span
namespace unified_place
def lvs : List (List Nat) := [[0, 1], [0, 1], [0, 1], [0, 1], [0, 1], [0, 6], [0], [0], [4], [0], [0], [0], [4]]
def lv : Nat → List Nat := lvOf lvs
noncomputable def code : Code := bodyOf Tryz.f35
noncomputable def fe : FE := ⟨Tryz.f35, code, lv⟩
def cuts : List Nat := []
abbrev X (w0 : Base) (n : Nat) : XT := xr (cx w0) 10 lv n
def b0 (X : XT) (w0 : Base) (n : Nat) (R : RT) (σ : Store) (a : Int) (n_ : Int) : Prop :=
  pcodeX (cx w0) 10 lv n cuts X code 0 (argsE 0 [(.pv (.int .i64 a)), (.pv (.int .i64 n_))]) σ (finQ (cx w0) Tryz.f35 n R)
theorem b0_eq (X : XT) (w0 : Base) (n : Nat) (R : RT) (σ : Store) (a : Int) (n_ : Int) : b0 X w0 n R σ a n_ = (
  condB ((n_ : Int) == 0) (FinK (cx w0) n (.pv (.int .i64 a)) σ R) (FinK (cx w0) n (.pv (.int .i64 (IntKind.wrap .i64 (a - 1)))) σ R)) := by kernel_rfl
theorem ok (w0 : Base) : FOK (cx w0) unified_place.id fe := ⟨Tryz.func35, by kernel_rfl, by kernel_rfl⟩
theorem calls {w0 : Base} {R : RT} {σ : Store} {a : Int} {n_ : Int} (h : b0 (X w0 (List.length σ)) w0 (List.length σ) R σ a n_) : SCalls (cx w0) unified_place.id [(.pv (.int .i64 a)), (.pv (.int .i64 n_))] σ R :=
  xr_enter (cxOK w0) (x := fe) (S := cuts) (unified_place.ok w0) (by kernel_rfl) h
end unified_place
namespace unified_follows
def lvs : List (List Nat) := [[0, 1], [0, 1], [2, 3], [2, 3], [4]]
def lv : Nat → List Nat := lvOf lvs
noncomputable def code : Code := bodyOf Tryz.f17
noncomputable def fe : FE := ⟨Tryz.f17, code, lv⟩
def cuts : List Nat := [4]
abbrev X (w0 : Base) (n : Nat) : XT := xr (cx w0) 35 lv n
def n4 (X : XT) (w0 : Base) (n : Nat) (R : RT) (σ : Store) (t4 : Bool) : Prop :=
  X (cAt code 4) 4 [(4, (.pv (.bool t4)))] σ (finQ (cx w0) Tryz.f17 n R)
def b4 (X : XT) (w0 : Base) (n : Nat) (R : RT) (σ : Store) (t4 : Bool) : Prop :=
  pcodeX (cx w0) 35 lv n cuts X (cAt code 4) 4 [(4, (.pv (.bool t4)))] σ (finQ (cx w0) Tryz.f17 n R)
def b0 (X : XT) (w0 : Base) (n : Nat) (R : RT) (σ : Store) (g : AV) (h_ : AV) : Prop :=
  pcodeX (cx w0) 35 lv n cuts X code 0 (argsE 0 [g, h_]) σ (finQ (cx w0) Tryz.f17 n R)
theorem b4_eq (X : XT) (w0 : Base) (n : Nat) (R : RT) (σ : Store) (t4 : Bool) : b4 X w0 n R σ t4 = (
  FinK (cx w0) n (.pv (.bool t4)) σ R) := by kernel_rfl
theorem n4_in {w0 : Base} {n : Nat} {R : RT} {σ : Store} {t4 : Bool} (h : b4 (X w0 n) w0 n R σ t4) : n4 (X w0 n) w0 n R σ t4 := xr_in (S := cuts) (by kernel_rfl) h
theorem b0_eq (X : XT) (w0 : Base) (n : Nat) (R : RT) (σ : Store) (g : AV) (h_ : AV) : b0 X w0 n R σ g h_ = (
  ((AV.cells g).all AV.one = true ∧ (((AV.cells h_).all AV.one = true ∧ (opt (aFieldAddr tabS ti37.td (.ptr (List.length (σ ++ [.cells 37 (AV.cells g)])) 0) 0) fun t5 => opt (aLoad ((σ ++ [.cells 37 (AV.cells g)]) ++ [.cells 37 (AV.cells h_)]) ti3 t5) fun t6 => isI .i64 t6 fun t6_1 => opt (aFieldAddr tabS ti37.td (.ptr (List.length (σ ++ [.cells 37 (AV.cells g)])) 0) 1) fun t7 => opt (aLoad ((σ ++ [.cells 37 (AV.cells g)]) ++ [.cells 37 (AV.cells h_)]) ti3 t7) fun t8 => isI .i64 t8 fun t8_1 => opt (aFieldAddr tabS ti37.td (.ptr (List.length σ) 0) 0) fun t10 => opt (aLoad ((σ ++ [.cells 37 (AV.cells g)]) ++ [.cells 37 (AV.cells h_)]) ti3 t10) fun t11 => isI .i64 t11 fun t11_1 => opt (aFieldAddr tabS ti37.td (.ptr (List.length σ) 0) 1) fun t12 => opt (aLoad ((σ ++ [.cells 37 (AV.cells g)]) ++ [.cells 37 (AV.cells h_)]) ti3 t12) fun t13 => isI .i64 t13 fun t13_1 => opt (aFieldAddr tabS ti37.td (.ptr (List.length σ) 0) 1) fun t15 => opt (aLoad ((σ ++ [.cells 37 (AV.cells g)]) ++ [.cells 37 (AV.cells h_)]) ti3 t15) fun t16 => isI .i64 t16 fun t16_1 => SCalls (cx w0) unified_place.id [(.pv (.int .i64 t6_1)), (.pv (.int .i64 t8_1))] ((σ ++ [.cells 37 (AV.cells g)]) ++ [.cells 37 (AV.cells h_)]) fun r σ' => isI .i64 r fun t9 => ((opt (aLoad σ' ti3 t10) fun t11_2 => ((t11_2 : AV) = (.pv (.int .i64 t11_1)))) ∧ (((opt (aLoad σ' ti3 t12) fun t13_2 => ((t13_2 : AV) = (.pv (.int .i64 t13_1)))) ∧ (((opt (aLoad σ' ti3 t15) fun t16_2 => ((t16_2 : AV) = (.pv (.int .i64 t16_1)))) ∧ (SCalls (cx w0) unified_place.id [(.pv (.int .i64 t11_1)), (.pv (.int .i64 t13_1))] σ' fun r_1 σ'_1 => isI .i64 r_1 fun t14 => ((opt (aLoad σ'_1 ti3 t15) fun t16_3 => ((t16_3 : AV) = (.pv (.int .i64 t16_1)))) ∧ (condB (decide ((t9 : Int) ≥ (IntKind.wrap .i64 (t14 + t16_1)))) (opt (aFieldAddr tabS ti37.td (.ptr (List.length (σ ++ [.cells 37 (AV.cells g)])) 0) 2) fun t20 => opt (aLoad σ'_1 ti3 t20) fun t21 => isI .i64 t21 fun t21_1 => opt (aFieldAddr tabS ti37.td (.ptr (List.length (σ ++ [.cells 37 (AV.cells g)])) 0) 3) fun t22 => opt (aLoad σ'_1 ti3 t22) fun t23 => isI .i64 t23 fun t23_1 => opt (aFieldAddr tabS ti37.td (.ptr (List.length σ) 0) 2) fun t25 => opt (aLoad σ'_1 ti3 t25) fun t26 => isI .i64 t26 fun t26_1 => opt (aFieldAddr tabS ti37.td (.ptr (List.length σ) 0) 3) fun t27 => opt (aLoad σ'_1 ti3 t27) fun t28 => isI .i64 t28 fun t28_1 => opt (aFieldAddr tabS ti37.td (.ptr (List.length σ) 0) 3) fun t30 => opt (aLoad σ'_1 ti3 t30) fun t31 => isI .i64 t31 fun t31_1 => SCalls (cx w0) unified_place.id [(.pv (.int .i64 t21_1)), (.pv (.int .i64 t23_1))] σ'_1 fun r_2 σ'_2 => isI .i64 r_2 fun t24 => ((opt (aLoad σ'_2 ti3 t25) fun t26_2 => ((t26_2 : AV) = (.pv (.int .i64 t26_1)))) ∧ (((opt (aLoad σ'_2 ti3 t27) fun t28_2 => ((t28_2 : AV) = (.pv (.int .i64 t28_1)))) ∧ (((opt (aLoad σ'_2 ti3 t30) fun t31_2 => ((t31_2 : AV) = (.pv (.int .i64 t31_1)))) ∧ (SCalls (cx w0) unified_place.id [(.pv (.int .i64 t26_1)), (.pv (.int .i64 t28_1))] σ'_2 fun r_3 σ'_3 => isI .i64 r_3 fun t29 => ((opt (aLoad σ'_3 ti3 t30) fun t31_3 => ((t31_3 : AV) = (.pv (.int .i64 t31_1)))) ∧ (n4 X w0 n R σ'_3 (decide ((t24 : Int) ≥ (IntKind.wrap .i64 (t29 + t31_1))))))))))))) (n4 X w0 n R σ'_1 false)))))))))))))) := by kernel_rfl
theorem ok (w0 : Base) : FOK (cx w0) unified_follows.id fe := ⟨Tryz.func17, by kernel_rfl, by kernel_rfl⟩
theorem calls {w0 : Base} {R : RT} {σ : Store} {g : AV} {h_ : AV} (h : b0 (X w0 (List.length σ)) w0 (List.length σ) R σ g h_) : SCalls (cx w0) unified_follows.id [g, h_] σ R :=
  xr_enter (cxOK w0) (x := fe) (S := cuts) (unified_follows.ok w0) (by kernel_rfl) h
end unified_follows
namespace unified_Hunk
def lvs : List (List Nat) := [[0], [0], [1], [1], [1], [1, 9], [], [], [2, 3], [1], [1], [1], [1, 4], [1, 4], [1, 4], [1, 4], [1, 4], [1, 4, 28], [1, 4], [1, 4], [1, 4], [1, 4], [1, 4], [1, 4], [1, 4], [4, 35, 36, 37], [4, 35, 36, 37], [4, 35, 36, 37], [4, 35, 36, 37], [4, 35, 36, 37, 38], [4, 35, 36, 37, 38], [4, 35, 36, 37], [4], [4, 35, 36, 37], [4, 35, 36, 37], [4, 35, 36, 37], [4, 35, 36, 37], [4, 6, 35, 36, 37], [4, 6, 35, 36, 37], [4, 6, 35, 36, 37], [4, 6, 35, 36, 37, 42], [4, 6, 35, 36, 37, 42], [4, 6, 35, 36, 37, 42], [4, 6, 35, 36, 37, 42, 44], [4, 6, 35, 36, 37], [4, 6, 35, 36, 37, 42], [4, 6, 35, 36, 37, 42], [4, 6, 35, 36, 37, 47], [4, 6, 35, 36, 37], [4, 6, 35, 36, 37], [4, 6, 35, 36, 37], [4, 6, 35, 36, 37], [4, 6, 35, 36, 37], [4, 6, 35, 36, 37], [4, 35, 36, 37, 56], [4, 35, 36, 37], [4, 35, 36, 37], [4, 35, 36, 37], [4], [4], [2, 3]]
def lv : Nat → List Nat := lvOf lvs
noncomputable def code : Code := bodyOf Tryz.f11
noncomputable def fe : FE := ⟨Tryz.f11, code, lv⟩
theorem ok (w0 : Base) : FOK (cx w0) unified_Hunk.id fe := ⟨Tryz.func11, by kernel_rfl, by kernel_rfl⟩
end unified_Hunk
namespace unified_Print
def lvs : List (List Nat) := [[0, 1, 2], [0, 1, 2], [2, 3, 4], [2, 3, 4], [2, 4, 8, 9], [2, 4, 8, 9], [2, 8, 9, 10, 11], [2, 8, 9, 10, 11], [2, 8, 9, 10, 11], [2, 8, 10, 35], [], [], [6, 7], [2, 8, 10], [2, 8, 10], [2, 8, 10], [2, 8, 10], [2, 8, 10, 37, 38, 39], [2, 8, 10, 37, 38, 39], [2, 8, 10, 37, 38, 39], [2, 8, 10, 37, 38, 39], [2, 8, 10, 37, 38, 39, 40], [2, 8, 10, 37, 38, 39, 40], [2, 8, 10, 37, 38, 39], [2, 8, 10], [2, 8, 10, 37, 38, 39], [2, 8, 10, 37, 38, 39], [2, 8, 10, 37, 38, 39], [2, 8, 10, 37, 38, 39], [2, 8, 10, 13, 37, 38, 39], [2, 8, 10, 13, 37, 38, 39], [2, 8, 10, 37, 38, 39, 45], [], [], [6, 7], [2, 8, 10, 37, 38, 39], [2, 8, 10, 37, 38, 39], [2, 8, 10], [2, 8, 10], [2, 8, 10], [2, 8, 10, 14], [2, 8, 10, 14], [2, 8, 10, 14], [2, 8, 10, 14], [2, 8, 10, 14], [2, 8, 10, 14, 51], [2, 8, 10, 14], [2, 8, 10], [2, 8, 10, 14], [2, 8, 10, 14], [2, 8, 10, 14], [2, 8, 10, 14], [2, 8, 10, 14, 64], [], [], [6, 7], [2, 8, 10, 14], [2, 8, 10, 14], [2, 8, 10], [2, 8, 10], [2, 8, 10, 15], [2, 8, 10, 15], [2, 15], [2, 15], [2, 15], [15, 73, 74, 75], [15, 73, 74, 75], [15, 73, 74, 75], [15, 73, 74, 75], [15, 73, 74, 75, 76], [15, 73, 74, 75, 76], [15, 73, 74, 75], [15], [15, 73, 74, 75], [15, 73, 74, 75], [15, 73, 74, 75], [15, 73, 74, 75], [15, 17, 73, 74, 75], [15, 17, 73, 74, 75], [15, 18, 19, 73, 74, 75], [15, 18, 19, 73, 74, 75], [15, 18, 19, 73, 74, 75], [15, 18, 19, 73, 74, 75, 85], [19], [19], [6, 7], [15, 18, 73, 74, 75], [15, 18, 73, 74, 75], [15, 73, 74, 75], [15], [15], [6, 7]]
def lv : Nat → List Nat := lvOf lvs
noncomputable def code : Code := bodyOf Tryz.f7
noncomputable def fe : FE := ⟨Tryz.f7, code, lv⟩
theorem ok (w0 : Base) : FOK (cx w0) unified_Print.id fe := ⟨Tryz.func7, by kernel_rfl, by kernel_rfl⟩
end unified_Print
end Go.Sv
