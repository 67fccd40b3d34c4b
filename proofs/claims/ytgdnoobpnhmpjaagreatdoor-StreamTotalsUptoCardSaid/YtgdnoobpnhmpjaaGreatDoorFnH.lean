/- What the code of Go functions comes to over abstract stores, piece by piece; each equation by the kernel. Printed by a program of this session. -/
import Derived.Test.YtgdnoobpnhmpjaaGreatDoorSvT
import Derived.KernelRfl
set_option linter.unusedVariables false
set_option maxRecDepth 100000
namespace Go.Sv
open Go Go.Proofs
namespace selvageref10_old
def lvs : List (List Nat) := [[0], [0], [1], [1], [2]]
def lv : Nat → List Nat := lvOf lvs
noncomputable def code : Code := bodyOf Tryz.f152
noncomputable def fe : FE := ⟨Tryz.f152, code, lv⟩
def cuts : List Nat := [4]
abbrev X (w0 : Base) (n : Nat) : XT := xr (cx w0) 11 lv n
theorem ok (w0 : Base) : FOK (cx w0) selvageref10_old.id fe := ⟨Tryz.func152, by kernel_rfl, by kernel_rfl⟩
section
variable (Z : XT) (w0 : Base) (n : Nat) (R : RT) (σ : Store) (t2 : Bool) (r : AV)
def n4 : Prop :=
  Z (cAt code 4) 4 [(2, (.pv (.bool t2)))] σ (finQ (cx w0) Tryz.f152 n R)
def b4 : Prop :=
  pcodeX (cx w0) 11 lv n cuts Z (cAt code 4) 4 [(2, (.pv (.bool t2)))] σ (finQ (cx w0) Tryz.f152 n R)
def b0 : Prop :=
  pcodeX (cx w0) 11 lv n cuts Z code 0 (argsE 0 [r]) σ (finQ (cx w0) Tryz.f152 n R)
end
variable {Z : XT} {w0 : Base} {n : Nat} {R : RT} {σ τ : Store} {t2 : Bool} {r : AV}
theorem b4_eq : b4 Z w0 n R σ t2 = (
  FinK (cx w0) n (.pv (.bool t2)) σ R) := by kernel_rfl
theorem n4_in (h : b4 (X w0 n) w0 n R σ t2) : n4 (X w0 n) w0 n R σ t2 := xr_in (S := cuts) (by kernel_rfl) @h
theorem b0_eq : b0 Z w0 n R σ r = (
  ((AV.cells r).all AV.one = true ∧ (opt (aFieldAddr tabS ti79.td (.ptr (List.length σ) 0) 0) fun t3 => opt (aLoad (σ ++ [.cells 79 (AV.cells r)]) ti3 t3) fun t4 => isI .i64 t4 fun t4_1 => condB ((t4_1 : Int) == 1) (n4 Z w0 n R (σ ++ [.cells 79 (AV.cells r)]) true) (opt (aFieldAddr tabS ti79.td (.ptr (List.length σ) 0) 0) fun t7 => opt (aLoad (σ ++ [.cells 79 (AV.cells r)]) ti3 t7) fun t8 => isI .i64 t8 fun t8_1 => n4 Z w0 n R (σ ++ [.cells 79 (AV.cells r)]) ((t8_1 : Int) == 2))))) := by kernel_rfl
theorem calls (h : b0 (X w0 (List.length σ)) w0 (List.length σ) R σ r) : SCalls (cx w0) selvageref10_old.id [r] σ R :=
  xr_enter (cxOK w0) (x := fe) (S := cuts) (selvageref10_old.ok w0) (by kernel_rfl) @h
attribute [irreducible] n4 b4 b0
end selvageref10_old
namespace selvageref10_fresh
def lvs : List (List Nat) := [[0], [0], [1], [1], [2]]
def lv : Nat → List Nat := lvOf lvs
noncomputable def code : Code := bodyOf Tryz.f153
noncomputable def fe : FE := ⟨Tryz.f153, code, lv⟩
def cuts : List Nat := [4]
abbrev X (w0 : Base) (n : Nat) : XT := xr (cx w0) 11 lv n
theorem ok (w0 : Base) : FOK (cx w0) selvageref10_fresh.id fe := ⟨Tryz.func153, by kernel_rfl, by kernel_rfl⟩
section
variable (Z : XT) (w0 : Base) (n : Nat) (R : RT) (σ : Store) (t2 : Bool) (r : AV)
def n4 : Prop :=
  Z (cAt code 4) 4 [(2, (.pv (.bool t2)))] σ (finQ (cx w0) Tryz.f153 n R)
def b4 : Prop :=
  pcodeX (cx w0) 11 lv n cuts Z (cAt code 4) 4 [(2, (.pv (.bool t2)))] σ (finQ (cx w0) Tryz.f153 n R)
def b0 : Prop :=
  pcodeX (cx w0) 11 lv n cuts Z code 0 (argsE 0 [r]) σ (finQ (cx w0) Tryz.f153 n R)
end
variable {Z : XT} {w0 : Base} {n : Nat} {R : RT} {σ τ : Store} {t2 : Bool} {r : AV}
theorem b4_eq : b4 Z w0 n R σ t2 = (
  FinK (cx w0) n (.pv (.bool t2)) σ R) := by kernel_rfl
theorem n4_in (h : b4 (X w0 n) w0 n R σ t2) : n4 (X w0 n) w0 n R σ t2 := xr_in (S := cuts) (by kernel_rfl) @h
theorem b0_eq : b0 Z w0 n R σ r = (
  ((AV.cells r).all AV.one = true ∧ (opt (aFieldAddr tabS ti79.td (.ptr (List.length σ) 0) 0) fun t3 => opt (aLoad (σ ++ [.cells 79 (AV.cells r)]) ti3 t3) fun t4 => isI .i64 t4 fun t4_1 => condB ((t4_1 : Int) == 1) (n4 Z w0 n R (σ ++ [.cells 79 (AV.cells r)]) true) (opt (aFieldAddr tabS ti79.td (.ptr (List.length σ) 0) 0) fun t7 => opt (aLoad (σ ++ [.cells 79 (AV.cells r)]) ti3 t7) fun t8 => isI .i64 t8 fun t8_1 => n4 Z w0 n R (σ ++ [.cells 79 (AV.cells r)]) ((t8_1 : Int) == 3))))) := by kernel_rfl
theorem calls (h : b0 (X w0 (List.length σ)) w0 (List.length σ) R σ r) : SCalls (cx w0) selvageref10_fresh.id [r] σ R :=
  xr_enter (cxOK w0) (x := fe) (S := cuts) (selvageref10_fresh.ok w0) (by kernel_rfl) @h
attribute [irreducible] n4 b4 b0
end selvageref10_fresh
namespace selvageref10_line
def lvs : List (List Nat) := [[0], [0], [0], [0], [0], [0, 3], [0, 3], [0, 3], [0, 3], [0, 3], [0, 3, 8], [0, 3], [0], [0, 3], [0, 3], [0, 3], [0, 3], [0, 3, 14], [], [], [2], [0, 3], [0, 3], [0], [0], [2]]
def lv : Nat → List Nat := lvOf lvs
noncomputable def code : Code := bodyOf Tryz.f154
noncomputable def fe : FE := ⟨Tryz.f154, code, lv⟩
def cuts : List Nat := [7, 23]
abbrev X (w0 : Base) (n : Nat) : XT := xr (cx w0) 17 lv n
theorem ok (w0 : Base) : FOK (cx w0) selvageref10_line.id fe := ⟨Tryz.func154, by kernel_rfl, by kernel_rfl⟩
section
variable (Z : XT) (w0 : Base) (n : Nat) (R : RT) (σ : Store) (s : List UInt8) (i : Int)
def q3 : QT := thenQ (fun env σ => Z (cAt code 23) 23 (prune (lv 23) env) σ (finQ (cx w0) Tryz.f154 n R)) (finQ (cx w0) Tryz.f154 n R)
def q6 : QT := blockQ 0 (q3 Z w0 n R)
def q7 : QT := thenQ (fun env σ => Z (cAt code 6) 6 (prune (lv 6) env) σ (q6 Z w0 n R)) (q6 Z w0 n R)
def n6 : Prop :=
  Z (cAt code 6) 6 [(0, (.pv (.str s))), (3, (.pv (.int .i64 i)))] σ (q6 Z w0 n R)
def b7 : Prop :=
  pcodeX (cx w0) 17 lv n cuts Z (cAt code 7) 7 [(0, (.pv (.str s))), (3, (.pv (.int .i64 i)))] σ (q7 Z w0 n R)
def n23 : Prop :=
  Z (cAt code 23) 23 [(0, (.pv (.str s)))] σ (finQ (cx w0) Tryz.f154 n R)
def b23 : Prop :=
  pcodeX (cx w0) 17 lv n cuts Z (cAt code 23) 23 [(0, (.pv (.str s)))] σ (finQ (cx w0) Tryz.f154 n R)
def b0 : Prop :=
  pcodeX (cx w0) 17 lv n cuts Z code 0 (argsE 0 [(.pv (.str s))]) σ (finQ (cx w0) Tryz.f154 n R)
end
variable {Z : XT} {w0 : Base} {n : Nat} {R : RT} {σ τ : Store} {s s' : List UInt8} {i i' : Int}
theorem n6_in (h : b7 (X w0 n) w0 n R σ s i) : n6 (X w0 n) w0 n R σ s i := xr_round (cxOK w0) (S := cuts) (by kernel_rfl : cAt code 6 = .loop (cAt code 7)) @h
theorem b7_eq : b7 Z w0 n R σ s i = (
  condB (decide ((i : Int) < (IntKind.wrap .i64 ((List.length (s : List UInt8) : Int) - 1)))) (opt (aIndex tabS ti9.td (.pv (.str s)) i) fun t13 => isI .u8 t13 fun t13_1 => condB ((t13_1 : Int) == 10) (FinK (cx w0) n (.pv (.bool false)) σ R) (n6 Z w0 n R σ s (IntKind.wrap .i64 (i + 1)))) (n23 Z w0 n R σ s)) := by kernel_rfl
theorem b23_eq : b23 Z w0 n R σ s = (
  FinK (cx w0) n (.pv (.bool (!((s : List UInt8) == [])))) σ R) := by kernel_rfl
theorem n23_in (h : b23 (X w0 n) w0 n R σ s) : n23 (X w0 n) w0 n R σ s := xr_in (S := cuts) (by kernel_rfl) @h
theorem b0_eq : b0 Z w0 n R σ s = (
  n6 Z w0 n R σ s 0) := by kernel_rfl
theorem calls (h : b0 (X w0 (List.length σ)) w0 (List.length σ) R σ s) : SCalls (cx w0) selvageref10_line.id [(.pv (.str s))] σ R :=
  xr_enter (cxOK w0) (x := fe) (S := cuts) (selvageref10_line.ok w0) (by kernel_rfl) @h
attribute [irreducible] n6 b7 n23 b23 b0
end selvageref10_line
namespace selvageref01_Whole
def lvs : List (List Nat) := [[0], [0], [0], [0], [2]]
def lv : Nat → List Nat := lvOf lvs
noncomputable def code : Code := bodyOf Tryz.f50
noncomputable def fe : FE := ⟨Tryz.f50, code, lv⟩
def cuts : List Nat := [4]
abbrev X (w0 : Base) (n : Nat) : XT := xr (cx w0) 14 lv n
theorem ok (w0 : Base) : FOK (cx w0) selvageref01_Whole.id fe := ⟨Tryz.func50, by kernel_rfl, by kernel_rfl⟩
section
variable (Z : XT) (w0 : Base) (n : Nat) (R : RT) (σ : Store) (t2 : Bool) (line : List UInt8)
def n4 : Prop :=
  Z (cAt code 4) 4 [(2, (.pv (.bool t2)))] σ (finQ (cx w0) Tryz.f50 n R)
def b4 : Prop :=
  pcodeX (cx w0) 14 lv n cuts Z (cAt code 4) 4 [(2, (.pv (.bool t2)))] σ (finQ (cx w0) Tryz.f50 n R)
def b0 : Prop :=
  pcodeX (cx w0) 14 lv n cuts Z code 0 (argsE 0 [(.pv (.str line))]) σ (finQ (cx w0) Tryz.f50 n R)
end
variable {Z : XT} {w0 : Base} {n : Nat} {R : RT} {σ τ : Store} {t2 : Bool} {line : List UInt8}
theorem b4_eq : b4 Z w0 n R σ t2 = (
  FinK (cx w0) n (.pv (.bool t2)) σ R) := by kernel_rfl
theorem n4_in (h : b4 (X w0 n) w0 n R σ t2) : n4 (X w0 n) w0 n R σ t2 := xr_in (S := cuts) (by kernel_rfl) @h
theorem b0_eq : b0 Z w0 n R σ line = (
  condB (decide (((List.length (line : List UInt8) : Int) : Int) > 0)) (opt (aIndex tabS ti9.td (.pv (.str line)) (IntKind.wrap .i64 ((List.length (line : List UInt8) : Int) - 1))) fun t11 => isI .u8 t11 fun t11_1 => n4 Z w0 n R σ ((t11_1 : Int) == 10)) (n4 Z w0 n R σ false)) := by kernel_rfl
theorem calls (h : b0 (X w0 (List.length σ)) w0 (List.length σ) R σ line) : SCalls (cx w0) selvageref01_Whole.id [(.pv (.str line))] σ R :=
  xr_enter (cxOK w0) (x := fe) (S := cuts) (selvageref01_Whole.ok w0) (by kernel_rfl) @h
attribute [irreducible] n4 b4 b0
end selvageref01_Whole
namespace selvageref10_Counts
def lvs : List (List Nat) := [[0], [0], [0], [0], [0, 4, 5], [0, 4, 5], [0, 4, 5], [0, 4, 5, 6], [0, 4, 5, 6], [0, 4, 5, 6], [0, 4, 5, 6], [0, 4, 5, 6], [0, 4, 5, 6, 10], [0, 4, 5, 6], [4, 5], [0, 4, 5, 6], [0, 4, 5, 6], [0, 4, 5, 6], [0, 4, 5, 6], [0, 4, 5, 6], [0, 4, 5, 6, 17], [0, 4, 5, 6], [0, 4, 5, 6], [0, 4, 5, 6], [0, 4, 5, 6], [0, 4, 5, 6, 24], [0, 4, 5, 6], [0, 4, 5, 6], [0, 4, 5, 6], [4, 5], [4, 5], [2, 3]]
def lv : Nat → List Nat := lvOf lvs
noncomputable def code : Code := bodyOf Tryz.f118
noncomputable def fe : FE := ⟨Tryz.f118, code, lv⟩
def cuts : List Nat := [9, 23, 28, 29]
abbrev X (w0 : Base) (n : Nat) : XT := xr (cx w0) 29 lv n
theorem ok (w0 : Base) : FOK (cx w0) selvageref10_Counts.id fe := ⟨Tryz.func118, by kernel_rfl, by kernel_rfl⟩
section
variable (Z : XT) (w0 : Base) (n : Nat) (R : RT) (σ : Store) (l_ : AV) (n_ m i : Int)
def q5 : QT := thenQ (fun env σ => Z (cAt code 29) 29 (prune (lv 29) env) σ (finQ (cx w0) Tryz.f118 n R)) (finQ (cx w0) Tryz.f118 n R)
def q8 : QT := blockQ 0 (q5 Z w0 n R)
def q9 : QT := thenQ (fun env σ => Z (cAt code 8) 8 (prune (lv 8) env) σ (q8 Z w0 n R)) (q8 Z w0 n R)
def q16 : QT := thenQ (fun env σ => Z (cAt code 28) 28 (prune (lv 28) env) σ (q9 Z w0 n R)) (q9 Z w0 n R)
def q17 : QT := blockQ 1 (q16 Z w0 n R)
def n8 : Prop :=
  Z (cAt code 8) 8 [(0, l_), (4, (.pv (.int .i64 n_))), (5, (.pv (.int .i64 m))), (6, (.pv (.int .i64 i)))] σ (q8 Z w0 n R)
def b9 : Prop :=
  pcodeX (cx w0) 29 lv n cuts Z (cAt code 9) 9 [(0, l_), (4, (.pv (.int .i64 n_))), (5, (.pv (.int .i64 m))), (6, (.pv (.int .i64 i)))] σ (q9 Z w0 n R)
def n23 : Prop :=
  Z (cAt code 23) 23 [(0, l_), (4, (.pv (.int .i64 n_))), (5, (.pv (.int .i64 m))), (6, (.pv (.int .i64 i)))] σ (q17 Z w0 n R)
def b23 : Prop :=
  pcodeX (cx w0) 29 lv n cuts Z (cAt code 23) 23 [(0, l_), (4, (.pv (.int .i64 n_))), (5, (.pv (.int .i64 m))), (6, (.pv (.int .i64 i)))] σ (q17 Z w0 n R)
def n28 : Prop :=
  Z (cAt code 28) 28 [(0, l_), (4, (.pv (.int .i64 n_))), (5, (.pv (.int .i64 m))), (6, (.pv (.int .i64 i)))] σ (q9 Z w0 n R)
def b28 : Prop :=
  pcodeX (cx w0) 29 lv n cuts Z (cAt code 28) 28 [(0, l_), (4, (.pv (.int .i64 n_))), (5, (.pv (.int .i64 m))), (6, (.pv (.int .i64 i)))] σ (q9 Z w0 n R)
def n29 : Prop :=
  Z (cAt code 29) 29 [(4, (.pv (.int .i64 n_))), (5, (.pv (.int .i64 m)))] σ (finQ (cx w0) Tryz.f118 n R)
def b29 : Prop :=
  pcodeX (cx w0) 29 lv n cuts Z (cAt code 29) 29 [(4, (.pv (.int .i64 n_))), (5, (.pv (.int .i64 m)))] σ (finQ (cx w0) Tryz.f118 n R)
def b0 : Prop :=
  pcodeX (cx w0) 29 lv n cuts Z code 0 (argsE 0 [l_]) σ (finQ (cx w0) Tryz.f118 n R)
end
variable {Z : XT} {w0 : Base} {n : Nat} {R : RT} {σ τ : Store} {l_ l_' : AV} {n_ m i n_' m' i' : Int}
theorem n8_in (h : b9 (X w0 n) w0 n R σ l_ n_ m i) : n8 (X w0 n) w0 n R σ l_ n_ m i := xr_round (cxOK w0) (S := cuts) (by kernel_rfl : cAt code 8 = .loop (cAt code 9)) @h
theorem b9_eq : b9 Z w0 n R σ l_ n_ m i = (
  opt (aLen ti43.td l_) fun t9 => isI .i64 t9 fun t9_1 => condB (decide ((i : Int) < t9_1)) (opt (aIndexAddr σ tabS ti43.td l_ i) fun t15 => opt (aLoad σ ti79 t15) fun t16 => SCalls (cx w0) selvageref10_old.id [t16] σ fun r σ' => isB r fun t17 => condB t17 (n23 Z w0 n R σ' l_ (IntKind.wrap .i64 (n_ + 1)) m i) (n23 Z w0 n R σ' l_ n_ m i)) (n29 Z w0 n R σ n_ m)) := by kernel_rfl
theorem b23_eq : b23 Z w0 n R σ l_ n_ m i = (
  opt (aIndexAddr σ tabS ti43.td l_ i) fun t22 => opt (aLoad σ ti79 t22) fun t23 => SCalls (cx w0) selvageref10_fresh.id [t23] σ fun r σ' => isB r fun t24 => condB t24 (n28 Z w0 n R σ' l_ n_ (IntKind.wrap .i64 (m + 1)) i) (n28 Z w0 n R σ' l_ n_ m i)) := by kernel_rfl
theorem n23_in (h : b23 (X w0 n) w0 n R σ l_ n_ m i) : n23 (X w0 n) w0 n R σ l_ n_ m i := xr_in (S := cuts) (by kernel_rfl) @h
theorem b28_eq : b28 Z w0 n R σ l_ n_ m i = (
  n8 Z w0 n R σ l_ n_ m (IntKind.wrap .i64 (i + 1))) := by kernel_rfl
theorem n28_in (h : b28 (X w0 n) w0 n R σ l_ n_ m i) : n28 (X w0 n) w0 n R σ l_ n_ m i := xr_in (S := cuts) (by kernel_rfl) @h
theorem b29_eq : b29 Z w0 n R σ n_ m = (
  FinK (cx w0) n (.tup [(.pv (.int .i64 n_)), (.pv (.int .i64 m))]) σ R) := by kernel_rfl
theorem n29_in (h : b29 (X w0 n) w0 n R σ n_ m) : n29 (X w0 n) w0 n R σ n_ m := xr_in (S := cuts) (by kernel_rfl) @h
theorem b0_eq : b0 Z w0 n R σ l_ = (
  n8 Z w0 n R σ l_ 0 0 0) := by kernel_rfl
theorem calls (h : b0 (X w0 (List.length σ)) w0 (List.length σ) R σ l_) : SCalls (cx w0) selvageref10_Counts.id [l_] σ R :=
  xr_enter (cxOK w0) (x := fe) (S := cuts) (selvageref10_Counts.ok w0) (by kernel_rfl) @h
attribute [irreducible] n8 b9 n23 b23 n28 b28 n29 b29 b0
end selvageref10_Counts
namespace selvageref10_rows
def lvs : List (List Nat) := [[0], [0], [0], [0], [0, 3, 4, 5], [0, 3, 4, 5], [0, 3, 4, 5], [0, 3, 4, 5, 6], [0, 3, 4, 5, 6], [0, 3, 4, 5, 6], [0, 3, 4, 5, 6], [0, 3, 4, 5, 6], [0, 3, 4, 5, 6, 12], [0, 3, 4, 5, 6], [5], [0, 3, 4, 5, 6], [0, 3, 4, 5, 6], [0, 3, 4, 5, 6], [0, 3, 4, 5, 6], [0, 3, 4, 5, 6, 7], [0, 3, 4, 5, 6, 7], [0, 3, 4, 5, 6, 7], [0, 3, 4, 5, 6, 7, 46], [], [], [2], [0, 3, 4, 5, 6, 7], [0, 3, 4, 5, 6, 7], [0, 3, 4, 5, 6, 7], [0, 3, 4, 5, 6, 7, 8], [0, 3, 4, 5, 6, 7, 8], [0, 3, 4, 5, 6, 7, 8], [0, 3, 4, 5, 6, 7, 8], [0, 3, 4, 5, 6, 7], [0, 3, 4, 5, 6], [5], [5], [2]]
def lv : Nat → List Nat := lvOf lvs
noncomputable def code : Code := bodyOf Tryz.f119
noncomputable def fe : FE := ⟨Tryz.f119, code, lv⟩
def cuts : List Nat := [9, 22, 31, 33, 34, 35]
abbrev X (w0 : Base) (n : Nat) : XT := xr (cx w0) 74 lv n
theorem ok (w0 : Base) : FOK (cx w0) selvageref10_rows.id fe := ⟨Tryz.func119, by kernel_rfl, by kernel_rfl⟩
section
variable (Z : XT) (w0 : Base) (n : Nat) (R : RT) (σ : Store) (l_ : AV) (ended over change : Bool) (i : Int) (r : AV) (t46 part : Bool)
def q5 : QT := thenQ (fun env σ => Z (cAt code 35) 35 (prune (lv 35) env) σ (finQ (cx w0) Tryz.f119 n R)) (finQ (cx w0) Tryz.f119 n R)
def q8 : QT := blockQ 0 (q5 Z w0 n R)
def q9 : QT := thenQ (fun env σ => Z (cAt code 8) 8 (prune (lv 8) env) σ (q8 Z w0 n R)) (q8 Z w0 n R)
def q16 : QT := thenQ (fun env σ => Z (cAt code 34) 34 (prune (lv 34) env) σ (q9 Z w0 n R)) (q9 Z w0 n R)
def q17 : QT := blockQ 1 (q16 Z w0 n R)
def q20 : QT := thenQ (fun env σ => pcodeX (cx w0) 74 lv n cuts Z (cAt code 27) 27 (prune (lv 27) env) σ (q17 Z w0 n R)) (q17 Z w0 n R)
def n8 : Prop :=
  Z (cAt code 8) 8 [(0, l_), (3, (.pv (.bool ended))), (4, (.pv (.bool over))), (5, (.pv (.bool change))), (6, (.pv (.int .i64 i)))] σ (q8 Z w0 n R)
def b9 : Prop :=
  pcodeX (cx w0) 74 lv n cuts Z (cAt code 9) 9 [(0, l_), (3, (.pv (.bool ended))), (4, (.pv (.bool over))), (5, (.pv (.bool change))), (6, (.pv (.int .i64 i)))] σ (q9 Z w0 n R)
def n22 : Prop :=
  Z (cAt code 22) 22 [(0, l_), (3, (.pv (.bool ended))), (4, (.pv (.bool over))), (5, (.pv (.bool change))), (6, (.pv (.int .i64 i))), (7, r), (46, (.pv (.bool t46)))] σ (q20 Z w0 n R)
def b22 : Prop :=
  pcodeX (cx w0) 74 lv n cuts Z (cAt code 22) 22 [(0, l_), (3, (.pv (.bool ended))), (4, (.pv (.bool over))), (5, (.pv (.bool change))), (6, (.pv (.int .i64 i))), (7, r), (46, (.pv (.bool t46)))] σ (q20 Z w0 n R)
def n31 : Prop :=
  Z (cAt code 31) 31 [(0, l_), (3, (.pv (.bool ended))), (4, (.pv (.bool over))), (5, (.pv (.bool change))), (6, (.pv (.int .i64 i))), (7, r), (8, (.pv (.bool part)))] σ (q17 Z w0 n R)
def b31 : Prop :=
  pcodeX (cx w0) 74 lv n cuts Z (cAt code 31) 31 [(0, l_), (3, (.pv (.bool ended))), (4, (.pv (.bool over))), (5, (.pv (.bool change))), (6, (.pv (.int .i64 i))), (7, r), (8, (.pv (.bool part)))] σ (q17 Z w0 n R)
def n33 : Prop :=
  Z (cAt code 33) 33 [(0, l_), (3, (.pv (.bool ended))), (4, (.pv (.bool over))), (5, (.pv (.bool change))), (6, (.pv (.int .i64 i))), (7, r)] σ (q17 Z w0 n R)
def b33 : Prop :=
  pcodeX (cx w0) 74 lv n cuts Z (cAt code 33) 33 [(0, l_), (3, (.pv (.bool ended))), (4, (.pv (.bool over))), (5, (.pv (.bool change))), (6, (.pv (.int .i64 i))), (7, r)] σ (q17 Z w0 n R)
def n34 : Prop :=
  Z (cAt code 34) 34 [(0, l_), (3, (.pv (.bool ended))), (4, (.pv (.bool over))), (5, (.pv (.bool change))), (6, (.pv (.int .i64 i)))] σ (q9 Z w0 n R)
def b34 : Prop :=
  pcodeX (cx w0) 74 lv n cuts Z (cAt code 34) 34 [(0, l_), (3, (.pv (.bool ended))), (4, (.pv (.bool over))), (5, (.pv (.bool change))), (6, (.pv (.int .i64 i)))] σ (q9 Z w0 n R)
def n35 : Prop :=
  Z (cAt code 35) 35 [(5, (.pv (.bool change)))] σ (finQ (cx w0) Tryz.f119 n R)
def b35 : Prop :=
  pcodeX (cx w0) 74 lv n cuts Z (cAt code 35) 35 [(5, (.pv (.bool change)))] σ (finQ (cx w0) Tryz.f119 n R)
def b0 : Prop :=
  pcodeX (cx w0) 74 lv n cuts Z code 0 (argsE 0 [l_]) σ (finQ (cx w0) Tryz.f119 n R)
end
variable {Z : XT} {w0 : Base} {n : Nat} {R : RT} {σ τ : Store} {l_ r l_' : AV} {ended over change t46 part ended' over' change' : Bool} {i i' : Int}
theorem n8_in (h : b9 (X w0 n) w0 n R σ l_ ended over change i) : n8 (X w0 n) w0 n R σ l_ ended over change i := xr_round (cxOK w0) (S := cuts) (by kernel_rfl : cAt code 8 = .loop (cAt code 9)) @h
theorem n8_weak (e : EWeak (cx w0) n [(0, l_), (3, (.pv (.bool ended))), (4, (.pv (.bool over))), (5, (.pv (.bool change))), (6, (.pv (.int .i64 i)))] σ [(0, l_'), (3, (.pv (.bool ended'))), (4, (.pv (.bool over'))), (5, (.pv (.bool change'))), (6, (.pv (.int .i64 i')))] τ) (h : n8 (X w0 n) w0 n R τ l_' ended' over' change' i') : n8 (X w0 n) w0 n R σ l_ ended over change i := xr_weak (L := lv) (k := 8) (by kernel_rfl : cAt code 8 = .loop (cAt code 9)) @e @h
theorem b9_eq : b9 Z w0 n R σ l_ ended over change i = (
  opt (aLen ti43.td l_) fun t11 => isI .i64 t11 fun t11_1 => condB (decide ((i : Int) < t11_1)) (opt (aIndexAddr σ tabS ti43.td l_ i) fun t17 => opt (aLoad σ ti79 t17) fun t18 => opt (aStore (σ ++ [.cells 79 (AV.ofValue ti79.zero).cells]) ti79 (.ptr (List.length σ) 0) t18) fun σ' => opt (aLoad σ' ti79 (.ptr (List.length σ) 0)) fun t19 => SCalls (cx w0) selvageref10_old.id [t19] σ' fun r σ'_1 => isB r fun t20 => condB (!t20) (opt (aLoad σ'_1 ti79 (.ptr (List.length σ) 0)) fun t23 => SCalls (cx w0) selvageref10_fresh.id [t23] σ'_1 fun r_1 σ'_2 => isB r_1 fun t24 => condB (!t24) (n22 Z w0 n R σ'_2 l_ ended over change i (.ptr (List.length σ) 0) true) (opt (aFieldAddr tabS ti79.td (.ptr (List.length σ) 0) 1) fun t28 => opt (aLoad σ'_2 ti9 t28) fun t29 => isS t29 fun t29_1 => SCalls (cx w0) selvageref10_line.id [(.pv (.str t29_1))] σ'_2 fun r_2 σ'_3 => isB r_2 fun t30 => condB (!t30) (n22 Z w0 n R σ'_3 l_ ended over change i (.ptr (List.length σ) 0) true) (opt (aLoad σ'_3 ti79 (.ptr (List.length σ) 0)) fun t34 => SCalls (cx w0) selvageref10_old.id [t34] σ'_3 fun r_3 σ'_4 => isB r_3 fun t35 => condB t35 (condB ended (n22 Z w0 n R σ'_4 l_ ended over change i (.ptr (List.length σ) 0) true) (opt (aLoad σ'_4 ti79 (.ptr (List.length σ) 0)) fun t41 => SCalls (cx w0) selvageref10_fresh.id [t41] σ'_4 fun r_4 σ'_5 => isB r_4 fun t42 => condB t42 (n22 Z w0 n R σ'_5 l_ ended over change i (.ptr (List.length σ) 0) over) (n22 Z w0 n R σ'_5 l_ ended over change i (.ptr (List.length σ) 0) false))) (opt (aLoad σ'_4 ti79 (.ptr (List.length σ) 0)) fun t41 => SCalls (cx w0) selvageref10_fresh.id [t41] σ'_4 fun r_4 σ'_5 => isB r_4 fun t42 => condB t42 (n22 Z w0 n R σ'_5 l_ ended over change i (.ptr (List.length σ) 0) over) (n22 Z w0 n R σ'_5 l_ ended over change i (.ptr (List.length σ) 0) false))))) (opt (aFieldAddr tabS ti79.td (.ptr (List.length σ) 0) 1) fun t28 => opt (aLoad σ'_1 ti9 t28) fun t29 => isS t29 fun t29_1 => SCalls (cx w0) selvageref10_line.id [(.pv (.str t29_1))] σ'_1 fun r_1 σ'_2 => isB r_1 fun t30 => condB (!t30) (n22 Z w0 n R σ'_2 l_ ended over change i (.ptr (List.length σ) 0) true) (opt (aLoad σ'_2 ti79 (.ptr (List.length σ) 0)) fun t34 => SCalls (cx w0) selvageref10_old.id [t34] σ'_2 fun r_2 σ'_3 => isB r_2 fun t35 => condB t35 (condB ended (n22 Z w0 n R σ'_3 l_ ended over change i (.ptr (List.length σ) 0) true) (opt (aLoad σ'_3 ti79 (.ptr (List.length σ) 0)) fun t41 => SCalls (cx w0) selvageref10_fresh.id [t41] σ'_3 fun r_3 σ'_4 => isB r_3 fun t42 => condB t42 (n22 Z w0 n R σ'_4 l_ ended over change i (.ptr (List.length σ) 0) over) (n22 Z w0 n R σ'_4 l_ ended over change i (.ptr (List.length σ) 0) false))) (opt (aLoad σ'_3 ti79 (.ptr (List.length σ) 0)) fun t41 => SCalls (cx w0) selvageref10_fresh.id [t41] σ'_3 fun r_3 σ'_4 => isB r_3 fun t42 => condB t42 (n22 Z w0 n R σ'_4 l_ ended over change i (.ptr (List.length σ) 0) over) (n22 Z w0 n R σ'_4 l_ ended over change i (.ptr (List.length σ) 0) false))))) (n35 Z w0 n R σ change)) := by kernel_rfl
theorem b22_eq : b22 Z w0 n R σ l_ ended over change i r t46 = (
  condB t46 (FinK (cx w0) n (.pv (.bool false)) σ R) (opt (aFieldAddr tabS ti79.td r 1) fun t47 => opt (aLoad σ ti9 t47) fun t48 => isS t48 fun t48_1 => SCalls (cx w0) selvageref01_Whole.id [(.pv (.str t48_1))] σ fun r_1 σ' => isB r_1 fun t49 => condB ended (n31 Z w0 n R σ' l_ true over change i r (!t49)) (condB (!t49) (opt (aLoad σ' ti79 r) fun t55 => SCalls (cx w0) selvageref10_old.id [t55] σ' fun r_2 σ'_1 => isB r_2 fun t56 => n31 Z w0 n R σ'_1 l_ t56 over change i r (!t49)) (n31 Z w0 n R σ' l_ false over change i r (!t49))))) := by kernel_rfl
theorem n22_in (h : b22 (X w0 n) w0 n R σ l_ ended over change i r t46) : n22 (X w0 n) w0 n R σ l_ ended over change i r t46 := xr_in (S := cuts) (by kernel_rfl) @h
theorem b31_eq : b31 Z w0 n R σ l_ ended over change i r part = (
  condB over (n33 Z w0 n R σ l_ ended true change i r) (condB part (opt (aLoad σ ti79 r) fun t63 => SCalls (cx w0) selvageref10_fresh.id [t63] σ fun r_1 σ' => isB r_1 fun t64 => n33 Z w0 n R σ' l_ ended t64 change i r) (n33 Z w0 n R σ l_ ended false change i r))) := by kernel_rfl
theorem n31_in (h : b31 (X w0 n) w0 n R σ l_ ended over change i r part) : n31 (X w0 n) w0 n R σ l_ ended over change i r part := xr_in (S := cuts) (by kernel_rfl) @h
theorem b33_eq : b33 Z w0 n R σ l_ ended over change i r = (
  condB change (n34 Z w0 n R σ l_ ended over true i) (opt (aFieldAddr tabS ti79.td r 0) fun t69 => opt (aLoad σ ti3 t69) fun t70 => isI .i64 t70 fun t70_1 => n34 Z w0 n R σ l_ ended over ((t70_1 : Int) != 1) i)) := by kernel_rfl
theorem n33_in (h : b33 (X w0 n) w0 n R σ l_ ended over change i r) : n33 (X w0 n) w0 n R σ l_ ended over change i r := xr_in (S := cuts) (by kernel_rfl) @h
theorem b34_eq : b34 Z w0 n R σ l_ ended over change i = (
  n8 Z w0 n R σ l_ ended over change (IntKind.wrap .i64 (i + 1))) := by kernel_rfl
theorem n34_in (h : b34 (X w0 n) w0 n R σ l_ ended over change i) : n34 (X w0 n) w0 n R σ l_ ended over change i := xr_in (S := cuts) (by kernel_rfl) @h
theorem b35_eq : b35 Z w0 n R σ change = (
  FinK (cx w0) n (.pv (.bool change)) σ R) := by kernel_rfl
theorem n35_in (h : b35 (X w0 n) w0 n R σ change) : n35 (X w0 n) w0 n R σ change := xr_in (S := cuts) (by kernel_rfl) @h
theorem b0_eq : b0 Z w0 n R σ l_ = (
  n8 Z w0 n R σ l_ false false false 0) := by kernel_rfl
theorem calls (h : b0 (X w0 (List.length σ)) w0 (List.length σ) R σ l_) : SCalls (cx w0) selvageref10_rows.id [l_] σ R :=
  xr_enter (cxOK w0) (x := fe) (S := cuts) (selvageref10_rows.ok w0) (by kernel_rfl) @h
attribute [irreducible] n8 b9 n22 b22 n31 b31 n33 b33 n34 b34 n35 b35 b0
end selvageref10_rows
namespace selvageref10_start
def lvs : List (List Nat) := [[0, 1], [0, 1], [0, 1], [0, 1], [0, 1, 5], [0, 1, 5], [0, 1, 5], [0, 1, 5, 7], [0, 1], [0, 1, 5], [0, 1, 5], [0, 1, 5], [4]]
def lv : Nat → List Nat := lvOf lvs
noncomputable def code : Code := bodyOf Tryz.f120
noncomputable def fe : FE := ⟨Tryz.f120, code, lv⟩
def cuts : List Nat := [10, 12]
abbrev X (w0 : Base) (n : Nat) : XT := xr (cx w0) 17 lv n
theorem ok (w0 : Base) : FOK (cx w0) selvageref10_start.id fe := ⟨Tryz.func120, by kernel_rfl, by kernel_rfl⟩
section
variable (Z : XT) (w0 : Base) (n : Nat) (R : RT) (σ : Store) (a n_ least : Int) (t4 : Bool)
def n10 : Prop :=
  Z (cAt code 10) 10 [(0, (.pv (.int .i64 a))), (1, (.pv (.int .i64 n_))), (5, (.pv (.int .i64 least)))] σ (finQ (cx w0) Tryz.f120 n R)
def b10 : Prop :=
  pcodeX (cx w0) 17 lv n cuts Z (cAt code 10) 10 [(0, (.pv (.int .i64 a))), (1, (.pv (.int .i64 n_))), (5, (.pv (.int .i64 least)))] σ (finQ (cx w0) Tryz.f120 n R)
def n12 : Prop :=
  Z (cAt code 12) 12 [(4, (.pv (.bool t4)))] σ (finQ (cx w0) Tryz.f120 n R)
def b12 : Prop :=
  pcodeX (cx w0) 17 lv n cuts Z (cAt code 12) 12 [(4, (.pv (.bool t4)))] σ (finQ (cx w0) Tryz.f120 n R)
def b0 : Prop :=
  pcodeX (cx w0) 17 lv n cuts Z code 0 (argsE 0 [(.pv (.int .i64 a)), (.pv (.int .i64 n_))]) σ (finQ (cx w0) Tryz.f120 n R)
end
variable {Z : XT} {w0 : Base} {n : Nat} {R : RT} {σ τ : Store} {a n_ least : Int} {t4 : Bool}
theorem b10_eq : b10 Z w0 n R σ a n_ least = (
  condB (decide ((a : Int) ≥ least)) (n12 Z w0 n R σ (decide ((a : Int) ≤ (IntKind.wrap .i64 (2147483647 - n_))))) (n12 Z w0 n R σ false)) := by kernel_rfl
theorem n10_in (h : b10 (X w0 n) w0 n R σ a n_ least) : n10 (X w0 n) w0 n R σ a n_ least := xr_in (S := cuts) (by kernel_rfl) @h
theorem b12_eq : b12 Z w0 n R σ t4 = (
  FinK (cx w0) n (.pv (.bool t4)) σ R) := by kernel_rfl
theorem n12_in (h : b12 (X w0 n) w0 n R σ t4) : n12 (X w0 n) w0 n R σ t4 := xr_in (S := cuts) (by kernel_rfl) @h
theorem b0_eq : b0 Z w0 n R σ a n_ = (
  condB ((n_ : Int) == 0) (n10 Z w0 n R σ a n_ 0) (n10 Z w0 n R σ a n_ 1)) := by kernel_rfl
theorem calls (h : b0 (X w0 (List.length σ)) w0 (List.length σ) R σ a n_) : SCalls (cx w0) selvageref10_start.id [(.pv (.int .i64 a)), (.pv (.int .i64 n_))] σ R :=
  xr_enter (cxOK w0) (x := fe) (S := cuts) (selvageref10_start.ok w0) (by kernel_rfl) @h
attribute [irreducible] n10 b10 n12 b12 b0
end selvageref10_start
namespace selvageref10_Valid
def lvs : List (List Nat) := [[0], [0], [1], [1], [1, 3, 4], [1, 3, 4], [1, 5], [1, 5], [1, 5], [1, 5, 6], [1, 5, 6], [1, 5, 6], [1, 5, 6], [1, 5, 6], [1, 5, 6, 50], [1, 5, 6], [5], [1, 5, 6], [1, 5, 6], [1, 5, 6], [1, 5, 6], [5], [5], [5], [62], [], [], [2], [], [], [], [2]]
def lv : Nat → List Nat := lvOf lvs
noncomputable def code : Code := bodyOf Tryz.f78
noncomputable def fe : FE := ⟨Tryz.f78, code, lv⟩
def cuts : List Nat := [6, 11, 20, 21]
abbrev X (w0 : Base) (n : Nat) : XT := xr (cx w0) 63 lv n
theorem ok (w0 : Base) : FOK (cx w0) selvageref10_Valid.id fe := ⟨Tryz.func78, by kernel_rfl, by kernel_rfl⟩
section
variable (Z : XT) (w0 : Base) (n : Nat) (R : RT) (σ : Store) (h_ : AV) (ok : Bool) (i : Int)
def q7 : QT := thenQ (fun env σ => Z (cAt code 21) 21 (prune (lv 21) env) σ (finQ (cx w0) Tryz.f78 n R)) (finQ (cx w0) Tryz.f78 n R)
def q10 : QT := blockQ 0 (q7 Z w0 n R)
def q11 : QT := thenQ (fun env σ => Z (cAt code 10) 10 (prune (lv 10) env) σ (q10 Z w0 n R)) (q10 Z w0 n R)
def n6 : Prop :=
  Z (cAt code 6) 6 [(1, h_), (5, (.pv (.bool ok)))] σ (finQ (cx w0) Tryz.f78 n R)
def b6 : Prop :=
  pcodeX (cx w0) 63 lv n cuts Z (cAt code 6) 6 [(1, h_), (5, (.pv (.bool ok)))] σ (finQ (cx w0) Tryz.f78 n R)
def n10 : Prop :=
  Z (cAt code 10) 10 [(1, h_), (5, (.pv (.bool ok))), (6, (.pv (.int .i64 i)))] σ (q10 Z w0 n R)
def b11 : Prop :=
  pcodeX (cx w0) 63 lv n cuts Z (cAt code 11) 11 [(1, h_), (5, (.pv (.bool ok))), (6, (.pv (.int .i64 i)))] σ (q11 Z w0 n R)
def n20 : Prop :=
  Z (cAt code 20) 20 [(1, h_), (5, (.pv (.bool ok))), (6, (.pv (.int .i64 i)))] σ (q11 Z w0 n R)
def b20 : Prop :=
  pcodeX (cx w0) 63 lv n cuts Z (cAt code 20) 20 [(1, h_), (5, (.pv (.bool ok))), (6, (.pv (.int .i64 i)))] σ (q11 Z w0 n R)
def n21 : Prop :=
  Z (cAt code 21) 21 [(5, (.pv (.bool ok)))] σ (finQ (cx w0) Tryz.f78 n R)
def b21 : Prop :=
  pcodeX (cx w0) 63 lv n cuts Z (cAt code 21) 21 [(5, (.pv (.bool ok)))] σ (finQ (cx w0) Tryz.f78 n R)
def b0 : Prop :=
  pcodeX (cx w0) 63 lv n cuts Z code 0 (argsE 0 [h_]) σ (finQ (cx w0) Tryz.f78 n R)
end
variable {Z : XT} {w0 : Base} {n : Nat} {R : RT} {σ τ : Store} {h_ h_' : AV} {ok ok' : Bool} {i i' : Int}
theorem b6_eq : b6 Z w0 n R σ h_ ok = (
  n10 Z w0 n R σ h_ ok 0) := by kernel_rfl
theorem n6_in (h : b6 (X w0 n) w0 n R σ h_ ok) : n6 (X w0 n) w0 n R σ h_ ok := xr_in (S := cuts) (by kernel_rfl) @h
theorem n10_in (h : b11 (X w0 n) w0 n R σ h_ ok i) : n10 (X w0 n) w0 n R σ h_ ok i := xr_round (cxOK w0) (S := cuts) (by kernel_rfl : cAt code 10 = .loop (cAt code 11)) @h
theorem b11_eq : b11 Z w0 n R σ h_ ok i = (
  opt (aFieldAddr tabS ti46.td h_ 4) fun t47 => opt (aLoad σ ti9 t47) fun t48 => isS t48 fun t48_1 => condB (decide ((i : Int) < (List.length (t48_1 : List UInt8) : Int))) (condB ok (opt (aFieldAddr tabS ti46.td h_ 4) fun t55 => opt (aLoad σ ti9 t55) fun t56 => isS t56 fun t56_1 => opt (aIndex tabS ti9.td (.pv (.str t56_1)) i) fun t58 => isI .u8 t58 fun t58_1 => n20 Z w0 n R σ h_ ((t58_1 : Int) != 10) i) (n20 Z w0 n R σ h_ false i)) (n21 Z w0 n R σ ok)) := by kernel_rfl
theorem b20_eq : b20 Z w0 n R σ h_ ok i = (
  n10 Z w0 n R σ h_ ok (IntKind.wrap .i64 (i + 1))) := by kernel_rfl
theorem n20_in (h : b20 (X w0 n) w0 n R σ h_ ok i) : n20 (X w0 n) w0 n R σ h_ ok i := xr_in (S := cuts) (by kernel_rfl) @h
theorem b21_eq : b21 Z w0 n R σ ok = (
  condB (!ok) (FinK (cx w0) n (.pv (.int .i64 100)) σ R) (FinK (cx w0) n (.pv (.int .i64 0)) σ R)) := by kernel_rfl
theorem n21_in (h : b21 (X w0 n) w0 n R σ ok) : n21 (X w0 n) w0 n R σ ok := xr_in (S := cuts) (by kernel_rfl) @h
theorem b0_eq : b0 Z w0 n R σ h_ = (
  ((AV.cells h_).all AV.one = true ∧ (opt (aFieldAddr tabS ti46.td (.ptr (List.length σ) 0) 5) fun t8 => opt (aLoad (σ ++ [.cells 46 (AV.cells h_)]) ti43 t8) fun t9 => SCalls (cx w0) selvageref10_Counts.id [t9] (σ ++ [.cells 46 (AV.cells h_)]) fun r σ' => isTup r fun vs => opt ((vs)[0]?) fun t11 => isI .i64 t11 fun t11_1 => isTup r fun vs_1 => opt ((vs_1)[1]?) fun t12 => isI .i64 t12 fun t12_1 => opt (aFieldAddr tabS ti46.td (.ptr (List.length σ) 0) 5) fun t13 => opt (aLoad σ' ti43 t13) fun t14 => SCalls (cx w0) selvageref10_rows.id [t14] σ' fun r_1 σ'_1 => isB r_1 fun t15 => condB t15 (opt (aFieldAddr tabS ti46.td (.ptr (List.length σ) 0) 1) fun t17 => opt (aLoad σ'_1 ti3 t17) fun t18 => isI .i64 t18 fun t18_1 => condB ((t18_1 : Int) == t11_1) (opt (aFieldAddr tabS ti46.td (.ptr (List.length σ) 0) 3) fun t23 => opt (aLoad σ'_1 ti3 t23) fun t24 => isI .i64 t24 fun t24_1 => condB ((t24_1 : Int) == t12_1) (opt (aFieldAddr tabS ti46.td (.ptr (List.length σ) 0) 0) fun t29 => opt (aLoad σ'_1 ti3 t29) fun t30 => isI .i64 t30 fun t30_1 => SCalls (cx w0) selvageref10_start.id [(.pv (.int .i64 t30_1)), (.pv (.int .i64 t11_1))] σ'_1 fun r_2 σ'_2 => isB r_2 fun t32 => condB t32 (opt (aFieldAddr tabS ti46.td (.ptr (List.length σ) 0) 2) fun t35 => opt (aLoad σ'_2 ti3 t35) fun t36 => isI .i64 t36 fun t36_1 => SCalls (cx w0) selvageref10_start.id [(.pv (.int .i64 t36_1)), (.pv (.int .i64 t12_1))] σ'_2 fun r_3 σ'_3 => isB r_3 fun t38 => condB t38 (opt (aFieldAddr tabS ti46.td (.ptr (List.length σ) 0) 4) fun t41 => opt (aLoad σ'_3 ti9 t41) fun t42 => isS t42 fun t42_1 => n6 Z w0 n R σ'_3 (.ptr (List.length σ) 0) (decide (((List.length (t42_1 : List UInt8) : Int) : Int) ≤ 4096))) (n6 Z w0 n R σ'_3 (.ptr (List.length σ) 0) false)) (n6 Z w0 n R σ'_2 (.ptr (List.length σ) 0) false)) (n6 Z w0 n R σ'_1 (.ptr (List.length σ) 0) false)) (n6 Z w0 n R σ'_1 (.ptr (List.length σ) 0) false)) (n6 Z w0 n R σ'_1 (.ptr (List.length σ) 0) false)))) := by kernel_rfl
theorem calls (h : b0 (X w0 (List.length σ)) w0 (List.length σ) R σ h_) : SCalls (cx w0) selvageref10_Valid.id [h_] σ R :=
  xr_enter (cxOK w0) (x := fe) (S := cuts) (selvageref10_Valid.ok w0) (by kernel_rfl) @h
attribute [irreducible] n6 b6 n10 b11 n20 b20 n21 b21 b0
end selvageref10_Valid
end Go.Sv
