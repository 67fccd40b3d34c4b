/- What the code of Go functions comes to over abstract stores, piece by piece; each equation by the kernel. Printed by a program of this session. Rows and names that are the same; hunks that are appended to a row. The statements about context diffs: their helpers: numbers of errors, hunks that are the same, hunks with memory of their own. What the code of Go functions comes to over abstract stores, piece by piece; each equation by the kernel. Printed by a program of this session. Package context's small sample, worked out: 'works' is true. The law ContextPrints over stores. -/
import Derived.Test.YtebgkjjbbnbnlaaGreatDoorSvT
import Derived.KernelRfl
import Derived.Test.YtebgkjjbbnbnlaaGreatDoorHk
import Derived.Test.YtebgkjjbbnbnlaaGreatDoorCxBe
import Derived.Test.YtebgkjjbbnbnlaaGreatDoorUnB
import Derived.Test.YtebgkjjbbnbnlaaGreatDoorUnP
import Derived.Test.YtebgkjjbbnbnlaaGreatDoorCxP
import Derived.Test.YtebgkjjbbnbnlaaGreatDoorCxT
import Derived.Test.YtebgkjjbbnbnlaaGreatDoorCxQ
import Derived.Test.YtebgkjjbbnbnlaaGreatDoorFnE
import Derived.Test.YtebgkjjbbnbnlaaGreatDoorStI
import Derived.Test.YtebgkjjbbnbnlaaGreatDoorCxD
set_option linter.unusedVariables false
set_option maxRecDepth 100000
set_option linter.unusedSimpArgs false
section
namespace Go.Sv
open Go Go.Proofs
namespace P9
def lvs : List (List Nat) := [[0], [0], [0], [0], [0], [0, 5], [], [], [2], [0], [0], [0], [0, 3], [0, 3], [0, 3], [3, 9], [], [], [2], [3], [3], [3], [2]]
def lv : Nat → List Nat := lvOf lvs
noncomputable def code : Code := E6 Tryz.f11
noncomputable def fe : FE := ⟨Tryz.f11, code, lv⟩
theorem ok (w0 : Base) : FOK (cx w0) P9.id fe := ⟨Tryz.func11, by kernel_rfl, by kernel_rfl⟩
variable {Z : XT} {w0 : Base} {n : Nat} {R : RT} {σ τ : Store} {e_ : AV}
end P9
namespace C7
def lvs : List (List Nat) := [[0, 1], [0, 1], [2, 3], [2, 3], [2, 3], [2, 3, 47], [], [], [4], [2, 3], [2, 3], [2, 3], [2, 3], [2, 3, 5], [2, 3, 5], [2, 3, 5], [2, 3, 5], [2, 3, 5], [2, 3, 5, 52], [2, 3, 5], [], [2, 3, 5], [2, 3, 5], [2, 3, 5], [2, 3, 5], [2, 3, 5, 65], [], [], [4], [2, 3, 5], [2, 3, 5], [], [], [4]]
def lv : Nat → List Nat := lvOf lvs
noncomputable def code : Code := E6 Tryz.f19
noncomputable def fe : FE := ⟨Tryz.f19, code, lv⟩
def cuts : List Nat := [5, 15, 31]
abbrev X (w0 : Base) (n : Nat) : XT := xr (cx w0) 66 lv n
theorem ok (w0 : Base) : FOK (cx w0) C7.id fe := ⟨Tryz.func19, by kernel_rfl, by kernel_rfl⟩
section
variable (Z : XT) (w0 : Base) (n : Nat) (R : RT) (σ : Store) (a b : AV) (t47 : Bool) (i : Int)
def q3 : QT := thenQ (fun env σ => A4 (cx w0) 66 lv n cuts Z (cAt code 10) 10 (prune (lv 10) env) σ (finQ (cx w0) Tryz.f19 n R)) (finQ (cx w0) Tryz.f19 n R)
def q11 : QT := thenQ (fun env σ => Z (cAt code 31) 31 (prune (lv 31) env) σ (finQ (cx w0) Tryz.f19 n R)) (finQ (cx w0) Tryz.f19 n R)
def q14 : QT := G0 0 (q11 Z w0 n R)
def q15 : QT := thenQ (fun env σ => Z (cAt code 14) 14 (prune (lv 14) env) σ (q14 Z w0 n R)) (q14 Z w0 n R)
def n5 : Prop :=
  Z (cAt code 5) 5 [(2, a), (3, b), (47, (.pv (.bool t47)))] σ (q3 Z w0 n R)
def b5 : Prop :=
  A4 (cx w0) 66 lv n cuts Z (cAt code 5) 5 [(2, a), (3, b), (47, (.pv (.bool t47)))] σ (q3 Z w0 n R)
def n14 : Prop :=
  Z (cAt code 14) 14 [(2, a), (3, b), (5, (.pv (.int .i64 i)))] σ (q14 Z w0 n R)
def b15 : Prop :=
  A4 (cx w0) 66 lv n cuts Z (cAt code 15) 15 [(2, a), (3, b), (5, (.pv (.int .i64 i)))] σ (q15 Z w0 n R)
def n31 : Prop :=
  Z (cAt code 31) 31 [] σ (finQ (cx w0) Tryz.f19 n R)
def b31 : Prop :=
  A4 (cx w0) 66 lv n cuts Z (cAt code 31) 31 [] σ (finQ (cx w0) Tryz.f19 n R)
def b0 : Prop :=
  A4 (cx w0) 66 lv n cuts Z code 0 (argsE 0 [a, b]) σ (finQ (cx w0) Tryz.f19 n R)
end
variable {Z : XT} {w0 : Base} {n : Nat} {R : RT} {σ τ : Store} {a b a' b' : AV} {t47 : Bool} {i i' : Int}
theorem b5_eq : b5 Z w0 n R σ a b t47 = (
  condB t47 (FinK (cx w0) n (.pv (.bool false)) σ R) (n14 Z w0 n R σ a b 0)) := by kernel_rfl
theorem n5_in (h : b5 (X w0 n) w0 n R σ a b t47) : n5 (X w0 n) w0 n R σ a b t47 := xr_in (S := cuts) (by kernel_rfl) h
theorem n14_in (h : b15 (X w0 n) w0 n R σ a b i) : n14 (X w0 n) w0 n R σ a b i := H5 (cxOK w0) (S := cuts) (by kernel_rfl : cAt code 14 = .loop (cAt code 15)) h
theorem b15_eq : b15 Z w0 n R σ a b i = (
  opt (A2 tabS ti39.td a 5) fun t49 => opt (aLoad σ ti37 t49) fun t50 => opt (aLen ti37.td t50) fun t51 => isI .i64 t51 fun t51_1 => condB (decide ((i : Int) < t51_1)) (opt (A2 tabS ti39.td a 5) fun t55 => opt (aLoad σ ti37 t55) fun t56 => opt (B6 σ tabS ti37.td t56 i) fun t58 => opt (aLoad σ ti51 t58) fun t59 => opt (A2 tabS ti39.td b 5) fun t60 => opt (aLoad σ ti37 t60) fun t61 => opt (B6 σ tabS ti37.td t61 i) fun t63 => opt (aLoad σ ti51 t63) fun t64 => aBinK tabS 51 false .neq t59 t64 fun v => isB v fun b_1 => condB b_1 (FinK (cx w0) n (.pv (.bool false)) σ R) (n14 Z w0 n R σ a b (IntKind.wrap .i64 (i + 1)))) (n31 Z w0 n R σ)) := by kernel_rfl
theorem b31_eq : b31 Z w0 n R σ = (
  FinK (cx w0) n (.pv (.bool true)) σ R) := by kernel_rfl
theorem n31_in (h : b31 (X w0 n) w0 n R σ) : n31 (X w0 n) w0 n R σ := xr_in (S := cuts) (by kernel_rfl) h
theorem b0_eq : b0 Z w0 n R σ a b = (
  ((AV.cells a).all AV.one = true ∧ (((AV.cells b).all AV.one = true ∧ (opt (A2 tabS ti39.td (.ptr (List.length σ) 0) 0) fun t6 => opt (aLoad ((σ ++ [.cells 39 (AV.cells a)]) ++ [.cells 39 (AV.cells b)]) ti3 t6) fun t7 => isI .i64 t7 fun t7_1 => opt (A2 tabS ti39.td (.ptr (List.length (σ ++ [.cells 39 (AV.cells a)])) 0) 0) fun t8 => opt (aLoad ((σ ++ [.cells 39 (AV.cells a)]) ++ [.cells 39 (AV.cells b)]) ti3 t8) fun t9 => isI .i64 t9 fun t9_1 => condB ((t7_1 : Int) != t9_1) (n5 Z w0 n R ((σ ++ [.cells 39 (AV.cells a)]) ++ [.cells 39 (AV.cells b)]) (.ptr (List.length σ) 0) (.ptr (List.length (σ ++ [.cells 39 (AV.cells a)])) 0) true) (opt (A2 tabS ti39.td (.ptr (List.length σ) 0) 1) fun t12 => opt (aLoad ((σ ++ [.cells 39 (AV.cells a)]) ++ [.cells 39 (AV.cells b)]) ti3 t12) fun t13 => isI .i64 t13 fun t13_1 => opt (A2 tabS ti39.td (.ptr (List.length (σ ++ [.cells 39 (AV.cells a)])) 0) 1) fun t14 => opt (aLoad ((σ ++ [.cells 39 (AV.cells a)]) ++ [.cells 39 (AV.cells b)]) ti3 t14) fun t15 => isI .i64 t15 fun t15_1 => condB ((t13_1 : Int) != t15_1) (n5 Z w0 n R ((σ ++ [.cells 39 (AV.cells a)]) ++ [.cells 39 (AV.cells b)]) (.ptr (List.length σ) 0) (.ptr (List.length (σ ++ [.cells 39 (AV.cells a)])) 0) true) (opt (A2 tabS ti39.td (.ptr (List.length σ) 0) 2) fun t19 => opt (aLoad ((σ ++ [.cells 39 (AV.cells a)]) ++ [.cells 39 (AV.cells b)]) ti3 t19) fun t20 => isI .i64 t20 fun t20_1 => opt (A2 tabS ti39.td (.ptr (List.length (σ ++ [.cells 39 (AV.cells a)])) 0) 2) fun t21 => opt (aLoad ((σ ++ [.cells 39 (AV.cells a)]) ++ [.cells 39 (AV.cells b)]) ti3 t21) fun t22 => isI .i64 t22 fun t22_1 => condB ((t20_1 : Int) != t22_1) (n5 Z w0 n R ((σ ++ [.cells 39 (AV.cells a)]) ++ [.cells 39 (AV.cells b)]) (.ptr (List.length σ) 0) (.ptr (List.length (σ ++ [.cells 39 (AV.cells a)])) 0) true) (opt (A2 tabS ti39.td (.ptr (List.length σ) 0) 3) fun t26 => opt (aLoad ((σ ++ [.cells 39 (AV.cells a)]) ++ [.cells 39 (AV.cells b)]) ti3 t26) fun t27 => isI .i64 t27 fun t27_1 => opt (A2 tabS ti39.td (.ptr (List.length (σ ++ [.cells 39 (AV.cells a)])) 0) 3) fun t28 => opt (aLoad ((σ ++ [.cells 39 (AV.cells a)]) ++ [.cells 39 (AV.cells b)]) ti3 t28) fun t29 => isI .i64 t29 fun t29_1 => condB ((t27_1 : Int) != t29_1) (n5 Z w0 n R ((σ ++ [.cells 39 (AV.cells a)]) ++ [.cells 39 (AV.cells b)]) (.ptr (List.length σ) 0) (.ptr (List.length (σ ++ [.cells 39 (AV.cells a)])) 0) true) (opt (A2 tabS ti39.td (.ptr (List.length σ) 0) 4) fun t33 => opt (aLoad ((σ ++ [.cells 39 (AV.cells a)]) ++ [.cells 39 (AV.cells b)]) ti9 t33) fun t34 => isS t34 fun t34_1 => opt (A2 tabS ti39.td (.ptr (List.length (σ ++ [.cells 39 (AV.cells a)])) 0) 4) fun t35 => opt (aLoad ((σ ++ [.cells 39 (AV.cells a)]) ++ [.cells 39 (AV.cells b)]) ti9 t35) fun t36 => isS t36 fun t36_1 => condB (!((t34_1 : List UInt8) == t36_1)) (n5 Z w0 n R ((σ ++ [.cells 39 (AV.cells a)]) ++ [.cells 39 (AV.cells b)]) (.ptr (List.length σ) 0) (.ptr (List.length (σ ++ [.cells 39 (AV.cells a)])) 0) true) (opt (A2 tabS ti39.td (.ptr (List.length σ) 0) 5) fun t40 => opt (aLoad ((σ ++ [.cells 39 (AV.cells a)]) ++ [.cells 39 (AV.cells b)]) ti37 t40) fun t41 => opt (aLen ti37.td t41) fun t42 => isI .i64 t42 fun t42_1 => opt (A2 tabS ti39.td (.ptr (List.length (σ ++ [.cells 39 (AV.cells a)])) 0) 5) fun t43 => opt (aLoad ((σ ++ [.cells 39 (AV.cells a)]) ++ [.cells 39 (AV.cells b)]) ti37 t43) fun t44 => opt (aLen ti37.td t44) fun t45 => isI .i64 t45 fun t45_1 => n5 Z w0 n R ((σ ++ [.cells 39 (AV.cells a)]) ++ [.cells 39 (AV.cells b)]) (.ptr (List.length σ) 0) (.ptr (List.length (σ ++ [.cells 39 (AV.cells a)])) 0) ((t42_1 : Int) != t45_1))))))))))) := by kernel_rfl
theorem calls (h : b0 (X w0 (List.length σ)) w0 (List.length σ) R σ a b) : A1 (cx w0) C7.id [a, b] σ R :=
  D3 (cxOK w0) (x := fe) (S := cuts) (C7.ok w0) (by kernel_rfl) h
end C7
namespace C8
def lvs : List (List Nat) := [[0, 1], [0, 1], [0, 1], [0, 1], [0, 1], [0, 1, 10], [], [], [4], [0, 1], [0, 1], [0, 1], [0, 1], [0, 1, 5], [0, 1, 5], [0, 1, 5], [0, 1, 5], [0, 1, 5], [0, 1, 5, 14], [0, 1, 5], [], [0, 1, 5], [0, 1, 5], [0, 1, 5], [0, 1, 5], [0, 1, 5, 26], [], [], [4], [0, 1, 5], [0, 1, 5], [], [], [4]]
def lv : Nat → List Nat := lvOf lvs
noncomputable def code : Code := E6 Tryz.f12
noncomputable def fe : FE := ⟨Tryz.f12, code, lv⟩
def cuts : List Nat := [15, 31]
abbrev X (w0 : Base) (n : Nat) : XT := xr (cx w0) 27 lv n
theorem ok (w0 : Base) : FOK (cx w0) C8.id fe := ⟨Tryz.func12, by kernel_rfl, by kernel_rfl⟩
section
variable (Z : XT) (w0 : Base) (n : Nat) (R : RT) (σ : Store) (a b : AV) (i : Int)
def q11 : QT := thenQ (fun env σ => Z (cAt code 31) 31 (prune (lv 31) env) σ (finQ (cx w0) Tryz.f12 n R)) (finQ (cx w0) Tryz.f12 n R)
def q14 : QT := G0 0 (q11 Z w0 n R)
def q15 : QT := thenQ (fun env σ => Z (cAt code 14) 14 (prune (lv 14) env) σ (q14 Z w0 n R)) (q14 Z w0 n R)
def n14 : Prop :=
  Z (cAt code 14) 14 [(0, a), (1, b), (5, (.pv (.int .i64 i)))] σ (q14 Z w0 n R)
def b15 : Prop :=
  A4 (cx w0) 27 lv n cuts Z (cAt code 15) 15 [(0, a), (1, b), (5, (.pv (.int .i64 i)))] σ (q15 Z w0 n R)
def n31 : Prop :=
  Z (cAt code 31) 31 [] σ (finQ (cx w0) Tryz.f12 n R)
def b31 : Prop :=
  A4 (cx w0) 27 lv n cuts Z (cAt code 31) 31 [] σ (finQ (cx w0) Tryz.f12 n R)
def b0 : Prop :=
  A4 (cx w0) 27 lv n cuts Z code 0 (argsE 0 [a, b]) σ (finQ (cx w0) Tryz.f12 n R)
end
variable {Z : XT} {w0 : Base} {n : Nat} {R : RT} {σ τ : Store} {a b a' b' : AV} {i i' : Int}
theorem n14_in (h : b15 (X w0 n) w0 n R σ a b i) : n14 (X w0 n) w0 n R σ a b i := H5 (cxOK w0) (S := cuts) (by kernel_rfl : cAt code 14 = .loop (cAt code 15)) h
theorem b15_eq : b15 Z w0 n R σ a b i = (
  opt (aLen ti24.td a) fun t13 => isI .i64 t13 fun t13_1 => condB (decide ((i : Int) < t13_1)) (opt (B6 σ tabS ti24.td a i) fun t19 => opt (aLoad σ ti39 t19) fun t20 => opt (B6 σ tabS ti24.td b i) fun t23 => opt (aLoad σ ti39 t23) fun t24 => A1 (cx w0) C7.id [t20, t24] σ fun r σ' => isB r fun t25 => condB (!t25) (FinK (cx w0) n (.pv (.bool false)) σ' R) (n14 Z w0 n R σ' a b (IntKind.wrap .i64 (i + 1)))) (n31 Z w0 n R σ)) := by kernel_rfl
theorem b31_eq : b31 Z w0 n R σ = (
  FinK (cx w0) n (.pv (.bool true)) σ R) := by kernel_rfl
theorem n31_in (h : b31 (X w0 n) w0 n R σ) : n31 (X w0 n) w0 n R σ := xr_in (S := cuts) (by kernel_rfl) h
theorem b0_eq : b0 Z w0 n R σ a b = (
  opt (aLen ti24.td a) fun t7 => isI .i64 t7 fun t7_1 => opt (aLen ti24.td b) fun t9 => isI .i64 t9 fun t9_1 => condB ((t7_1 : Int) != t9_1) (FinK (cx w0) n (.pv (.bool false)) σ R) (n14 Z w0 n R σ a b 0)) := by kernel_rfl
theorem calls (h : b0 (X w0 (List.length σ)) w0 (List.length σ) R σ a b) : A1 (cx w0) C8.id [a, b] σ R :=
  D3 (cxOK w0) (x := fe) (S := cuts) (C8.ok w0) (by kernel_rfl) h
end C8
namespace E0
def lvs : List (List Nat) := [[0], [0], [0], [0], [0, 3], [0, 3], [0, 3], [0, 3, 4], [0, 3, 4], [0, 3, 4], [0, 3, 4], [0, 3, 4], [0, 3, 4, 10], [0, 3, 4], [3], [0, 3, 4], [0, 3, 4], [0, 3, 4], [0, 3, 4], [0, 3, 4, 5], [0, 3, 4, 5], [0, 3, 4, 5, 6], [0, 3, 4, 5, 6], [0, 3, 4, 5], [0, 3, 4], [3], [3], [2]]
def lv : Nat → List Nat := lvOf lvs
noncomputable def code : Code := E6 Tryz.f8
noncomputable def fe : FE := ⟨Tryz.f8, code, lv⟩
def cuts : List Nat := [9, 25]
abbrev X (w0 : Base) (n : Nat) : XT := xr (cx w0) 27 lv n
theorem ok (w0 : Base) : FOK (cx w0) E0.id fe := ⟨Tryz.func8, by kernel_rfl, by kernel_rfl⟩
section
variable (Z : XT) (w0 : Base) (n : Nat) (R : RT) (σ : Store) (l_ out : AV) (i : Int)
def q5 : QT := thenQ (fun env σ => Z (cAt code 25) 25 (prune (lv 25) env) σ (finQ (cx w0) Tryz.f8 n R)) (finQ (cx w0) Tryz.f8 n R)
def q8 : QT := G0 0 (q5 Z w0 n R)
def q9 : QT := thenQ (fun env σ => Z (cAt code 8) 8 (prune (lv 8) env) σ (q8 Z w0 n R)) (q8 Z w0 n R)
def n8 : Prop :=
  Z (cAt code 8) 8 [(0, l_), (3, out), (4, (.pv (.int .i64 i)))] σ (q8 Z w0 n R)
def b9 : Prop :=
  A4 (cx w0) 27 lv n cuts Z (cAt code 9) 9 [(0, l_), (3, out), (4, (.pv (.int .i64 i)))] σ (q9 Z w0 n R)
def n25 : Prop :=
  Z (cAt code 25) 25 [(3, out)] σ (finQ (cx w0) Tryz.f8 n R)
def b25 : Prop :=
  A4 (cx w0) 27 lv n cuts Z (cAt code 25) 25 [(3, out)] σ (finQ (cx w0) Tryz.f8 n R)
def b0 : Prop :=
  A4 (cx w0) 27 lv n cuts Z code 0 (argsE 0 [l_]) σ (finQ (cx w0) Tryz.f8 n R)
end
variable {Z : XT} {w0 : Base} {n : Nat} {R : RT} {σ τ : Store} {l_ out l_' out' : AV} {i i' : Int}
theorem n8_in (h : b9 (X w0 n) w0 n R σ l_ out i) : n8 (X w0 n) w0 n R σ l_ out i := H5 (cxOK w0) (S := cuts) (by kernel_rfl : cAt code 8 = .loop (cAt code 9)) h
theorem n8_weak (e : EWeak (cx w0) n [(0, l_), (3, out), (4, (.pv (.int .i64 i)))] σ [(0, l_'), (3, out'), (4, (.pv (.int .i64 i')))] τ) (h : n8 (X w0 n) w0 n R τ l_' out' i') : n8 (X w0 n) w0 n R σ l_ out i := O3 (L := lv) (k := 8) (by kernel_rfl : cAt code 8 = .loop (cAt code 9)) e h
theorem b9_eq : b9 Z w0 n R σ l_ out i = (
  opt (aLen ti24.td l_) fun t9 => isI .i64 t9 fun t9_1 => condB (decide ((i : Int) < t9_1)) (opt (B6 σ tabS ti24.td l_ i) fun t15 => opt (aLoad σ ti39 t15) fun t16 => opt (D0 (σ ++ [.cells 39 (AV.ofValue ti39.zero).cells]) ti39 (.ptr (List.length σ) 0) t16) fun σ' => opt (A2 tabS ti39.td (.ptr (List.length σ) 0) 5) fun t18 => opt (aLoad σ' ti37 t18) fun t19 => opt2 (Y3 true σ' ti51 .nilsl t19) fun t20 σ'_1 => opt (A2 tabS ti39.td (.ptr (List.length σ) 0) 5) fun t21 => opt (D0 σ'_1 ti37 t21 t20) fun σ'_2 => opt (aLoad σ'_2 ti39 (.ptr (List.length σ) 0)) fun t23 => opt2 (F9 σ'_2 ti39 false 1 [(0, t23)]) fun t24 σ'_3 => opt2 (I7 σ'_3 ti39 out t24) fun t25 σ'_4 => n8 Z w0 n R σ'_4 l_ t25 (IntKind.wrap .i64 (i + 1))) (n25 Z w0 n R σ out)) := by kernel_rfl
theorem b25_eq : b25 Z w0 n R σ out = (
  FinK (cx w0) n out σ R) := by kernel_rfl
theorem n25_in (h : b25 (X w0 n) w0 n R σ out) : n25 (X w0 n) w0 n R σ out := xr_in (S := cuts) (by kernel_rfl) h
theorem b0_eq : b0 Z w0 n R σ l_ = (
  n8 Z w0 n R σ l_ .nilsl 0) := by kernel_rfl
theorem calls (h : b0 (X w0 (List.length σ)) w0 (List.length σ) R σ l_) : A1 (cx w0) E0.id [l_] σ R :=
  D3 (cxOK w0) (x := fe) (S := cuts) (E0.ok w0) (by kernel_rfl) h
end E0
namespace selvagelaw12_ContextPrints
variable {Z : XT} {w0 : Base} {n : Nat} {R : RT} {σ τ : Store} {j mine j' mine' : AV} {t50 t82 : Bool} {i i' : Int}
end selvagelaw12_ContextPrints
end Go.Sv
end
section
namespace Go.Sv
section
open Go Go.RowKit Go.Proofs
variable {w0 : Base} {σ : Store} {R : AV → Store → Prop}
theorem neq_eq {t : TypeId} {ti : TI} {cs : List PV} (ht : tabS t = some ti) (e : aEqT tabS ti false (.pv (.agg cs)) (.pv (.agg cs)) = some true) {k : AV → Prop} (hk : k (.pv (.bool false))) : aBinK tabS t false .neq (.pv (.agg cs)) (.pv (.agg cs)) k := by
  unfold aBinK
  exact A0 ht (A0 e hk)
theorem eq_row (r : Row) : eqCells tabS 0 [(0, 3), (1, 9)] [.int .i64 r.k, .str r.t] [.int .i64 r.k, .str r.t] = some true := by
  have h : eqCells tabS 0 [(0, 3), (1, 9)] [.int .i64 r.k, .str r.t] [.int .i64 r.k, .str r.t] = some ((r.k == r.k) && ((r.t == r.t) && true)) := rfl
  rw [h]; simp
abbrev hkS (hs : List Hnk) : Store := [.arr 6 (hs.map hnkP) false]
abbrev hkA (hs : List Hnk) : AV := .arr 0 hs.length 0 hs.length
theorem hk_seal (hs : List Hnk) : sealR 0 ([] ++ hkS hs) (hkA hs) = some (.pv (.sl (hs.map hnkP))) := by
  show (if (hs.map hnkP).length = hs.length ∧ 0 + hs.length ≤ hs.length then some (AV.pv (.sl (((hs.map hnkP).drop 0).take hs.length))) else none) = _
  rw [if_pos ⟨List.length_map _, by omega⟩]
  simp [List.take_of_length_le]
theorem rows_sized : ∀ l : List Row, sized 2 (l.map rowP) = true := by
  intro l
  simp only [sized, List.all_eq_true, List.mem_map]
  rintro x ⟨r, _, rfl⟩
  rfl
theorem own_rows {l : List Row} (hl : l.length ≤ 1048576) : Y3 true σ ti51 .nilsl (.pv (rowsP l)) = some (.pv (rowsP l), σ) := by
  show (if sized 2 (l.map rowP) = true ∧ roomy (l.map rowP).length ti51.bytes then _ else _) = _
  rw [if_pos ⟨rows_sized l, by rw [List.length_map]; exact ⟨by omega, by show l.length * 24 ≤ _; omega⟩⟩]
end
end Go.Sv
end
section
namespace Go.Sv
section
open Go Go.RowKit Go.Proofs
variable {w0 : Base} {σ : Store} {R : AV → Store → Prop}
abbrev twoS (h : Hnk) : Store := [.cells 39 (hnkC h), .cells 39 (hnkC h)]
theorem same1_rows (h : Hnk) (hx : h.rows.length ≤ 1048576) : ∀ (r : List Row) (k : Nat), (h.rows.map rowP).drop k = r.map rowP →
    C7.n14 (C7.X w0 0) w0 0 (fun r' _ => r' = .pv (.bool true)) (twoS h) (.ptr 0 0) (.ptr 1 0) k
  | [], k, hd => by
    have hk := M0 hd
    rw [List.length_map] at hk
    refine C7.n14_in ?_
    rw [C7.b15_eq]
    repeat ((with_reducible first | apply A0 | apply wI | apply wT | apply wP | apply wS | apply wB); exact rfl)
    rw [A7, if_neg (by rw [List.length_map]; omega)]
    refine C7.n31_in ?_
    rw [C7.b31_eq]
    exact C5 (Nat.zero_le _) rfl
  | c :: r, k, hd => by
    obtain ⟨h1, h2, hk⟩ := H4 hd
    rw [List.length_map] at hk
    refine C7.n14_in ?_
    rw [C7.b15_eq]
    repeat ((with_reducible first | apply A0 | apply wI | apply wT | apply wP | apply wS | apply wB); exact rfl)
    rw [A7, if_pos (by rw [List.length_map]; omega)]
    repeat ((with_reducible first | apply A0 | apply wI | apply wT | apply wP | apply wS | apply wB); exact rfl)
    refine A0 (K7 tab51 h1 rfl) ?_
    repeat ((with_reducible first | apply A0 | apply wI | apply wT | apply wP | apply wS | apply wB); exact rfl)
    refine A0 (K7 tab51 h1 rfl) ?_
    repeat ((with_reducible first | apply A0 | apply wI | apply wT | apply wP | apply wS | apply wB); exact rfl)
    refine neq_eq (t := 51) (ti := ti51) (cs := [.int .i64 c.k, .str c.t]) rfl (eq_row c) (F5 ?_)
    rw [I5, I3 hk (by omega)]
    exact same1_rows h hx r (k + 1) h2
theorem same1_spec (L : Laid w0.w) {h : Hnk} (hx : h.rows.length ≤ 1048576) (hR : R (.pv (.bool true)) σ) : A1 (cx w0) C7.id [.pv (hnkP h), .pv (hnkP h)] σ R := by
  refine A1.alone L rfl (fun w1 L1 => ?_) rfl hR
  have key : ∀ t, t = false → C7.n5 (C7.X w1 0) w1 0 (fun r' _ => r' = .pv (.bool true)) (twoS h) (.ptr 0 0) (.ptr 1 0) t := by
    rintro t rfl
    refine C7.n5_in ?_
    rw [C7.b5_eq, I5]
    exact same1_rows h hx h.rows 0 rfl
  refine C7.calls ?_
  rw [C7.b0_eq]
  refine ⟨rfl, rfl, ?_⟩
  repeat ((with_reducible first | apply A0 | apply wI | apply wT | apply wP | apply wS | apply wB); exact rfl)
  rw [M1, if_pos rfl]
  repeat ((with_reducible first | apply A0 | apply wI | apply wT | apply wP | apply wS | apply wB); exact rfl)
  rw [M1, if_pos rfl]
  repeat ((with_reducible first | apply A0 | apply wI | apply wT | apply wP | apply wS | apply wB); exact rfl)
  rw [M1, if_pos rfl]
  repeat ((with_reducible first | apply A0 | apply wI | apply wT | apply wP | apply wS | apply wB); exact rfl)
  rw [M1, if_pos rfl]
  repeat ((with_reducible first | apply A0 | apply wI | apply wT | apply wP | apply wS | apply wB); exact rfl)
  rw [E3, P0, if_pos rfl]
  repeat ((with_reducible first | apply A0 | apply wI | apply wT | apply wP | apply wS | apply wB); exact rfl)
  exact key _ (by simp)
theorem same12_loop (L : Laid w0.w) (xs : List PV) (hx : xs.length ≤ 1048576) : ∀ (r : List Hnk) (k : Nat), xs.drop k = r.map hnkP → (∀ x ∈ r, x.rows.length ≤ 1048576) →
    C8.n14 (C8.X w0 0) w0 0 (fun r' _ => r' = .pv (.bool true)) [] (.pv (.sl xs)) (.pv (.sl xs)) k
  | [], k, hd, _ => by
    have hk := M0 hd
    refine C8.n14_in ?_
    rw [C8.b15_eq]
    repeat ((with_reducible first | apply A0 | apply wI | apply wT | apply wP | apply wS | apply wB); exact rfl)
    rw [A7, if_neg (by omega)]
    refine C8.n31_in ?_
    rw [C8.b31_eq]
    exact C5 (Nat.zero_le _) rfl
  | h :: r, k, hd, ht => by
    obtain ⟨h1, h2, hk⟩ := H4 hd
    have idx : ∀ σ, B6 σ tabS ti24.td (.pv (.sl xs)) (k : Int) = some (.ro (hnkP h) 0) := fun σ => K7 tab39 h1 rfl
    refine C8.n14_in ?_
    rw [C8.b15_eq]
    repeat ((with_reducible first | apply A0 | apply wI | apply wT | apply wP | apply wS | apply wB); exact rfl)
    rw [A7, if_pos (by omega)]
    refine A0 (idx _) ?_
    repeat ((with_reducible first | apply A0 | apply wI | apply wT | apply wP | apply wS | apply wB); exact rfl)
    refine A0 (idx _) ?_
    repeat ((with_reducible first | apply A0 | apply wI | apply wT | apply wP | apply wS | apply wB); exact rfl)
    refine same1_spec L (h := h) (ht h (by simp)) (F5 ?_)
    rw [Bool.not_true, I5, I3 hk (by omega)]
    exact same12_loop L xs hx r (k + 1) h2 (fun x hx => ht x (List.mem_cons_of_mem _ hx))
theorem same12_spec (L : Laid w0.w) {l : List Hnk} (hl : l.length ≤ 1048576) (ht : ∀ x ∈ l, x.rows.length ≤ 1048576) (hR : R (.pv (.bool true)) σ) : A1 (cx w0) C8.id [hnksA l, hnksA l] σ R := by
  refine A1.alone L rfl (fun w1 L1 => ?_) rfl hR
  refine C8.calls ?_
  rw [C8.b0_eq]
  repeat ((with_reducible first | apply A0 | apply wI | apply wT | apply wP | apply wS | apply wB); exact rfl)
  rw [M1, if_pos rfl]
  exact same12_loop L1 (l.map hnkP) (by rw [List.length_map]; exact hl) l 0 rfl ht
theorem twins_loop (l : List Hnk) (hx : l.length ≤ 1048576) (ht : ∀ x ∈ l, x.rows.length ≤ 1048576) : ∀ (r done : List Hnk), l = done ++ r → E0.n8 (E0.X w0 0) w0 0 (fun r' _ => r' = hnksA l) (hkS done) (hnksA l) (hkA done) done.length
  | [], done, h => by
    rw [List.append_nil] at h
    subst h
    refine E0.n8_in ?_
    rw [E0.b9_eq]
    repeat ((with_reducible first | apply A0 | apply wI | apply wT | apply wP | apply wS | apply wB); exact rfl)
    rw [A7, if_neg (by rw [List.length_map]; omega)]
    refine E0.n25_in ?_
    rw [E0.b25_eq]
    exact O9 (σ := []) (L := hkS l) glob0 rfl (hk_seal l) rfl
  | c :: r, done, h => by
    have hk : (l.map hnkP)[done.length]? = some (hnkP c) := by rw [h]; simp
    have hlen : l.length = done.length + (r.length + 1) := by rw [h]; simp
    have hc := ht c (by rw [h]; simp)
    have ih := twins_loop l hx ht r (done ++ [c]) (by rw [h]; simp)
    simp only [hkA, List.length_append, List.length_singleton] at ih
    have e : done.map hnkP ++ [hnkP c] = (done ++ [c]).map hnkP := by simp
    refine E0.n8_in ?_
    rw [E0.b9_eq]
    repeat ((with_reducible first | apply A0 | apply wI | apply wT | apply wP | apply wS | apply wB); exact rfl)
    rw [A7, if_pos (by rw [List.length_map]; omega)]
    refine A0 (K7 tab39 hk rfl) ?_
    repeat ((with_reducible first | apply A0 | apply wI | apply wT | apply wP | apply wS | apply wB); exact rfl)
    refine G2 (own_rows hc) ?_
    repeat ((with_reducible first | apply A0 | apply wI | apply wT | apply wP | apply wS | apply wB); exact rfl)
    refine G2 (v := .pv (.sl [hnkP c])) rfl ?_
    refine G2 (R1 (id := 0) (es := 6) (ver := done.length) (xs := done.map hnkP) (ys := [hnkP c]) rfl rfl (List.length_map _).symm rfl rfl ⟨by rw [List.length_map]; show done.length + 1 ≤ _; omega, by rw [List.length_map]; show (done.length + 1) * 72 ≤ _; omega⟩) ?_
    rw [I3 (n := l.length) (by omega) (by omega)]
    rw [List.length_map, e]
    exact E0.n8_weak (EWeak.drop (τ := hkS (done ++ [c])) glob0 (Nat.zero_le _) rfl rfl) ih
theorem twins_spec (L : Laid w0.w) {l : List Hnk} (hl : l.length ≤ 1048576) (ht : ∀ x ∈ l, x.rows.length ≤ 1048576) (hR : R (hnksA l) σ) : A1 (cx w0) E0.id [hnksA l] σ R := by
  refine A1.alone L rfl (fun w1 L1 => ?_) rfl hR
  refine E0.calls ?_
  rw [E0.b0_eq]
  refine E0.n8_weak (l_' := hnksA l) (out' := hkA []) (i' := 0) (τ := hkS []) (EWeak.nil (t := 3) (es := 6) rfl rfl) ?_
  exact twins_loop l hl ht l [] rfl
end
end Go.Sv
end
section
namespace Go.Sv
open Go Go.Proofs
namespace P7
def lvs : List (List Nat) := [[], [], [0], [0], [0]]
def lv : Nat → List Nat := lvOf lvs
noncomputable def code : Code := E6 Tryz.f35
noncomputable def fe : FE := ⟨Tryz.f35, code, lv⟩
theorem ok (w0 : Base) : FOK (cx w0) P7.id fe := ⟨Tryz.func35, by kernel_rfl, by kernel_rfl⟩
end P7
namespace J2
def lvs : List (List Nat) := [[], [], [], [], [1, 2], [1, 2], [1, 2, 3, 4, 5, 6, 7, 8], [1, 2, 3, 4, 5, 6, 7, 8], [1, 2, 3, 4, 5, 6, 7, 8, 13, 14], [1, 2, 3, 4, 5, 6, 7, 8, 13, 14], [0]]
def lv : Nat → List Nat := lvOf lvs
noncomputable def code : Code := E6 Tryz.f15
noncomputable def fe : FE := ⟨Tryz.f15, code, lv⟩
theorem ok (w0 : Base) : FOK (cx w0) J2.id fe := ⟨Tryz.func15, by kernel_rfl, by kernel_rfl⟩
end J2
namespace N5
def lvs : List (List Nat) := [[0, 1], [0, 1], [0, 1], [0, 1], [0, 1], [0, 1, 12], [0], [0], [4], [0, 1], [0, 1], [0, 1], [0, 1], [0, 1, 21], [0, 1], [0, 1], [4], [0, 1], [0, 1], [0, 1], [0, 1], [0, 1, 5, 6], [0, 1, 5, 6], [0, 1, 5, 31], [0, 5], [0, 5], [4], [0, 1], [0, 1], [0, 1], [4]]
def lv : Nat → List Nat := lvOf lvs
noncomputable def code : Code := E6 Tryz.f149
noncomputable def fe : FE := ⟨Tryz.f149, code, lv⟩
theorem ok (w0 : Base) : FOK (cx w0) N5.id fe := ⟨Tryz.func149, by kernel_rfl, by kernel_rfl⟩
end N5
namespace L6
def lvs : List (List Nat) := [[0, 1], [0, 1], [0, 1], [0, 1], [0, 1], [0, 1], [0, 1], [0, 1], [0, 1, 13], [0, 1], [0], [0, 1], [0, 1], [0], [0], [4]]
def lv : Nat → List Nat := lvOf lvs
noncomputable def code : Code := E6 Tryz.f161
noncomputable def fe : FE := ⟨Tryz.f161, code, lv⟩
theorem ok (w0 : Base) : FOK (cx w0) L6.id fe := ⟨Tryz.func161, by kernel_rfl, by kernel_rfl⟩
end L6
namespace L0
def lvs : List (List Nat) := [[0, 1], [0, 1], [0, 1], [0, 1], [0, 1], [0, 1], [0, 1], [0, 1], [0, 1, 16], [0, 1], [0], [0, 1], [0, 1], [0], [0], [4]]
def lv : Nat → List Nat := lvOf lvs
noncomputable def code : Code := E6 Tryz.f162
noncomputable def fe : FE := ⟨Tryz.f162, code, lv⟩
theorem ok (w0 : Base) : FOK (cx w0) L0.id fe := ⟨Tryz.func162, by kernel_rfl, by kernel_rfl⟩
end L0
namespace Q4
def lvs : List (List Nat) := [[0], [0], [0], [0], [0, 4, 5], [0, 4, 5], [0, 4, 5], [0, 4, 5, 12], [0, 4, 5], [0, 4, 5], [2, 3], [4], [4], [4], [2, 3]]
def lv : Nat → List Nat := lvOf lvs
noncomputable def code : Code := E6 Tryz.f150
noncomputable def fe : FE := ⟨Tryz.f150, code, lv⟩
theorem ok (w0 : Base) : FOK (cx w0) Q4.id fe := ⟨Tryz.func150, by kernel_rfl, by kernel_rfl⟩
end Q4
namespace M9
def lvs : List (List Nat) := [[0], [0], [0], [0], [0, 4], [0, 4], [0, 4], [0, 30], [0], [0], [0, 5], [0, 5], [0, 5], [0, 5, 39], [0, 5], [0, 5], [0, 5], [0, 5], [0, 5, 44], [], [], [2, 3], [0, 5], [0, 5], [0, 5], [0, 5], [0, 5, 6], [0, 5, 6], [0, 5, 6], [5, 6, 47, 48, 49], [5, 6, 47, 48, 49], [5, 6, 47, 48, 49], [5, 6, 47, 48, 49], [5, 6, 47, 48, 49, 50], [5, 6, 47, 48, 49, 50], [5, 6, 47, 48, 49], [5, 6], [5, 6, 47, 48, 49], [5, 6, 47, 48, 49], [5, 6, 47, 48, 49], [5, 6, 47, 48, 49], [5, 6, 8, 47, 48, 49], [5, 6, 8, 47, 48, 49], [5, 6, 8, 47, 48, 49], [5, 6, 8, 47, 48, 49], [5, 6, 8, 47, 48, 49], [5, 6, 8, 47, 48, 49, 56], [], [], [2, 3], [5, 6, 8, 47, 48, 49], [5, 6, 8, 47, 48, 49], [5, 6, 47, 48, 49], [5, 6], [5, 6], [5, 6], [6, 66], [6], [6], [6], [6], [2, 3], [0], [0], [0], [9, 10], [9, 10], [2, 3]]
def lv : Nat → List Nat := lvOf lvs
noncomputable def code : Code := E6 Tryz.f167
noncomputable def fe : FE := ⟨Tryz.f167, code, lv⟩
theorem ok (w0 : Base) : FOK (cx w0) M9.id fe := ⟨Tryz.func167, by kernel_rfl, by kernel_rfl⟩
end M9
namespace M6
def lvs : List (List Nat) := [[0, 1], [0, 1], [0, 1], [0, 1], [0, 1, 5], [0, 1, 5], [0, 1, 5], [0, 1, 5], [0, 1, 5, 16], [], [], [4], [0, 1, 5], [0, 1, 5], [0, 1, 5, 24], [0, 1], [0, 1], [4], [0, 1, 5], [0, 1, 5], [0, 1, 5, 31], [], [], [4], [0, 1, 5], [0, 1, 5], [0, 1, 5, 36], [0, 1], [0, 1], [4], [0, 1, 5], [0, 1, 5], [0, 1, 5], [0, 1, 5, 6], [0, 1, 5, 6], [0, 1, 5, 6, 7], [0, 1, 5, 6, 7], [0, 1, 5, 6, 7, 8], [0, 1, 5, 6, 7, 8], [0, 1, 5, 6, 7, 8, 9], [0, 1, 5, 6, 7, 8, 9], [0, 1, 5, 6, 7, 8, 9, 10], [0, 1, 5, 6, 7, 8, 9, 10], [0, 1, 5, 6, 7, 8, 9, 10], [0, 1, 5, 6, 7, 8, 9, 10], [0, 1, 5, 6, 7, 8, 9, 10], [0, 1, 5, 6, 7, 8, 9, 10], [0, 1, 5, 6, 7, 8, 9, 10, 59], [0, 1, 5, 6, 7, 8, 9, 10], [], [0, 1, 5, 6, 7, 8, 9, 10], [0, 1, 5, 6, 7, 8, 9, 10], [0, 1, 5, 6, 7, 8, 9, 10], [0, 1, 5, 6, 7, 8, 9, 10], [0, 1, 5, 6, 7, 8, 9, 10, 64], [0, 1, 5, 6, 7, 8, 9, 10], [0, 1, 5, 6, 7, 8, 9, 10], [0, 1, 5, 6, 7, 8, 9, 10, 11], [0, 1, 5, 6, 7, 8, 9, 10, 11], [0, 1, 5, 6, 7, 8, 9, 10, 11], [0, 1, 5, 6, 7, 8, 9, 10, 11, 73], [], [], [4], [0, 1, 5, 6, 7, 8, 9, 10, 11], [0, 1, 5, 6, 7, 8, 9, 10, 11], [0, 1, 5, 6, 7, 8, 9, 10], [0, 1, 5, 6, 7, 8, 9, 10], [0, 1, 5, 6, 7, 8, 9, 10], [0, 1, 5, 6, 7, 8, 9, 10], [0, 1, 5, 6, 7, 8, 9, 10, 93], [8], [8], [4], [0, 1, 5, 6, 7, 8, 9, 10], [0, 1, 5, 6, 7, 8, 9, 10], [0, 1, 5, 6, 7, 8, 9, 10], [0, 1, 5, 6, 7, 8, 9, 10], [0, 1, 5, 6, 7, 8, 9, 10], [0, 1, 5, 6, 7, 8, 9, 10], [0, 1, 5, 6, 7, 8, 9, 10], [0, 1, 5, 6, 7, 8, 9, 10, 107], [0, 1, 8], [0, 1, 8], [8, 12], [8, 12], [8, 12], [8, 12, 114], [8, 12], [8, 12], [4], [], [], [], [4], [0, 1, 5, 6, 7, 8, 9, 10], [0, 1, 5, 6, 7, 8, 9, 10], [0, 1, 5, 6, 7, 8, 9, 10, 132], [0, 1, 8], [0, 1, 8], [8, 13], [8, 13], [8, 13], [8, 13, 139], [], [], [4], [8, 13], [8, 13], [8, 13], [4], [0, 1, 5, 6, 7, 8, 9, 10], [], [], [4]]
def lv : Nat → List Nat := lvOf lvs
noncomputable def code : Code := E6 Tryz.f139
noncomputable def fe : FE := ⟨Tryz.f139, code, lv⟩
theorem ok (w0 : Base) : FOK (cx w0) M6.id fe := ⟨Tryz.func139, by kernel_rfl, by kernel_rfl⟩
end M6
namespace M8
def lvs : List (List Nat) := [[0, 1], [0, 1], [0, 1], [0, 1], [4]]
def lv : Nat → List Nat := lvOf lvs
noncomputable def code : Code := E6 Tryz.f101
noncomputable def fe : FE := ⟨Tryz.f101, code, lv⟩
theorem ok (w0 : Base) : FOK (cx w0) M8.id fe := ⟨Tryz.func101, by kernel_rfl, by kernel_rfl⟩
end M8
end Go.Sv
end
section
namespace Go.Sv
open Go Go.RowKit Go.Proofs
noncomputable def feX : List (FuncId × FE) := [(F4.id, F4.fe), (J6.id, J6.fe), (C2.id, C2.fe), (L8.id, L8.fe), (B9.id, B9.fe), (D4.id, D4.fe), (B0.id, B0.fe), (J7.id, J7.fe), (E9.id, E9.fe), (E4.id, E4.fe), (H2.id, H2.fe), (D6.id, D6.fe), (B7.id, B7.fe), (A6.id, A6.fe), (C6.id, C6.fe), (D5.id, D5.fe), (F6.id, F6.fe), (A3.id, A3.fe), (A9.id, A9.fe), (J3.id, J3.fe), (H8.id, H8.fe), (P7.id, P7.fe), (I4.id, I4.fe), (F7.id, F7.fe), (O7.id, O7.fe), (J8.id, J8.fe), (H6.id, H6.fe), (N5.id, N5.fe), (L6.id, L6.fe), (L0.id, L0.fe), (C3.id, C3.fe), (C1.id, C1.fe), (H3.id, H3.fe), (D9.id, D9.fe), (Q4.id, Q4.fe), (M9.id, M9.fe), (D8.id, D8.fe), (M6.id, M6.fe), (M8.id, M8.fe), (B1.id, B1.fe), (D2.id, D2.fe), (I9.id, I9.fe), (F1.id, F1.fe), (G9.id, G9.fe), (L9.id, L9.fe), (J1.id, J1.fe), (L4.id, L4.fe), (C9.id, C9.fe), (N9.id, N9.fe), (F0.id, F0.fe), (G7.id, G7.fe), (N2.id, N2.fe), (E5.id, E5.fe), (K3.id, K3.fe), (M4.id, M4.fe), (J0.id, J0.fe), (E2.id, E2.fe), (O6.id, O6.fe), (E1.id, E1.fe), (G1.id, G1.fe), (F8.id, F8.fe), (D7.id, D7.fe), (P9.id, P9.fe), (C7.id, C7.fe), (C8.id, C8.fe), (J2.id, J2.fe)]
theorem feX_ok (w0 : Base) : FEsOK (cx w0) feX := ⟨F4.ok w0, J6.ok w0, C2.ok w0, L8.ok w0, B9.ok w0, D4.ok w0, B0.ok w0, J7.ok w0, E9.ok w0, E4.ok w0, H2.ok w0, D6.ok w0, B7.ok w0, A6.ok w0, C6.ok w0, D5.ok w0, F6.ok w0, A3.ok w0, A9.ok w0, J3.ok w0, H8.ok w0, P7.ok w0, I4.ok w0, F7.ok w0, O7.ok w0, J8.ok w0, H6.ok w0, N5.ok w0, L6.ok w0, L0.ok w0, C3.ok w0, C1.ok w0, H3.ok w0, D9.ok w0, Q4.ok w0, M9.ok w0, D8.ok w0, M6.ok w0, M8.ok w0, B1.ok w0, D2.ok w0, I9.ok w0, F1.ok w0, G9.ok w0, L9.ok w0, J1.ok w0, L4.ok w0, C9.ok w0, N9.ok w0, F0.ok w0, G7.ok w0, N2.ok w0, E5.ok w0, K3.ok w0, M4.ok w0, J0.ok w0, E2.ok w0, O6.ok w0, E1.ok w0, G1.ok w0, F8.ok w0, D7.ok w0, P9.ok w0, C7.ok w0, C8.ok w0, J2.ok w0, trivial⟩
theorem works_run (w0 : Base) : rcall (cx w0) (feTab feX) (primOf primsX) 1000 30 J2.id [] [] = some (.pv (.bool true), []) := by kernel_rfl
theorem works_spec {w0 : Base} {σ : Store} {R : AV → Store → Prop} (L : Laid w0.w) (hR : R (.pv (.bool true)) σ) : A1 (cx w0) J2.id [] σ R :=
  A1.alone L rfl (fun w1 L1 => run_callsX L1 (feX_ok w1) (works_run w1) rfl) rfl hR
end Go.Sv
end
section
namespace Go.Sv
section
open Go Go.RowKit Go.Proofs
variable {w0 : Base} {σ : Store} {R : AV → Store → Prop}
abbrev jobC (p s p' s' : List UInt8) (l : List Hnk) : List AV := [.pv (.str p), .pv (.str s), .pv (.str p'), .pv (.str s'), hnksA l]
abbrev jobS (p s p' s' : List UInt8) (l : List Hnk) : Store := [.cells 26 (jobC p s p' s' l)]
open Go.Proofs.YtebgkjjbbnbnlaaGreatDoor in
theorem job_data {H : Type} {d0 : DataW H} {ds : List (DataW H)} (hT : hasT tabS 12 26 (toPV d0)) (hk : Rows.uptoSmall H (d0 :: ds) = true) : ∃ p s p' s' l, toPV d0 = .agg [.str p, .str s, .str p', .str s', .sl (l.map hnkP)] ∧ PrOK p s p' s' l ∧ pvBs (l.map hnkP) ≤ 1048576 := by
  obtain ⟨qs, e, g⟩ := hasT_struct tab26 ti26_td hT
  obtain ⟨_, qs, rfl, h1, h⟩ := N6 g
  obtain ⟨_, qs, rfl, h2, h⟩ := N6 h
  obtain ⟨_, qs, rfl, h3, h⟩ := N6 h
  obtain rfl := fields_nil h
  obtain ⟨p, s, rfl⟩ := name_data h1
  obtain ⟨p', s', rfl⟩ := name_data h2
  obtain ⟨xs, rfl, hx⟩ := hasT_slice tab24 ti24_td h3
  obtain ⟨l, rfl, hl⟩ := hnk_list xs hx
  have hb : Rows.uptoBulkAll (d0 :: ds) ≤ 1048576 := of_decide_eq_true hk
  have h0 := pvB_le d0
  simp only [Rows.uptoBulkAll] at hb
  have e' : toPV d0 = .agg [.str p, .str s, .str p', .str s', .sl (l.map hnkP)] := e
  rw [e'] at h0
  simp only [pvB, pvBs] at h0
  obtain ⟨g1, g2⟩ := hnks_ok (B := 1048576) (Nat.le_refl _) (by omega) hl
  exact ⟨p, s, p', s', l, e', ⟨by omega, by omega, by omega, by omega, g1, g2, by omega⟩, by omega⟩
end
end Go.Sv
end
