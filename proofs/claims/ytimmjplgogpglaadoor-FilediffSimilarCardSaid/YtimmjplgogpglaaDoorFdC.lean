/- What the code of Go functions comes to over abstract stores, piece by piece; each equation by the kernel. Printed by a program of this session. -/
import Derived.Test.YtimmjplgogpglaaDoorSvT
import Derived.KernelRfl
set_option linter.unusedVariables false
set_option maxRecDepth 100000
namespace Go.Sv
open Go Go.Proofs
namespace myers_Diff
def lvs : List (List Nat) := [[0, 1], [0, 1], [0, 1], [0, 1], [0, 1, 5], [0, 1, 5], [0, 1, 5, 6], [0, 1, 5, 6], [0, 1, 5, 6, 7, 8], [0, 1, 5, 6, 7, 8], [0, 1, 5, 6, 7, 8], [0, 1, 5, 6, 7, 8], [0, 1, 5, 6, 7, 8], [0, 1, 5, 6, 7, 8], [0, 1, 5, 6, 7, 8, 22], [0, 1, 5, 6, 7, 8], [6], [0, 1, 5, 6, 7, 8], [0, 1, 5, 6, 7, 8], [0, 1, 5, 6, 7, 8], [0, 1, 5, 6, 7, 8, 9], [0, 1, 5, 6, 7, 8, 9], [0, 1, 5, 6, 7, 8, 9], [0, 1, 5, 6, 7, 8, 9], [0, 1, 5, 6, 7, 8, 9], [0, 1, 5, 6, 7, 8, 9], [0, 1, 5, 6, 7, 8, 9, 36], [0, 1, 5, 6, 7, 8, 9], [0, 1, 5, 6, 7, 8, 9], [0, 1, 5, 6, 7, 8, 9], [0, 1, 5, 6, 7, 8, 9], [0, 1, 5, 6, 7, 8, 9], [0, 1, 5, 6, 7, 8, 9], [0, 1, 5, 6, 7, 8, 9], [0, 1, 5, 6, 7, 8, 9], [0, 1, 5, 6, 7, 8, 9], [0, 1, 5, 6, 7, 8, 9], [0, 1, 5, 6, 7, 8, 9, 49], [0, 1, 5, 6, 7, 8, 9], [0, 1, 5, 6, 7, 8, 9], [0, 1, 5, 6, 7, 8, 9], [0, 1, 5, 6, 7, 8, 9], [0, 1, 5, 6, 7, 8, 9], [0, 1, 5, 6, 7, 8, 9], [0, 1, 5, 6, 7, 8, 9], [0, 1, 5, 6, 7, 8, 9], [0, 1, 5, 6, 7, 8, 9], [0, 1, 5, 6, 7, 8, 9, 67], [0, 1, 5, 6, 7, 8, 9], [0, 1, 5, 6, 7, 8, 9], [0, 1, 5, 6, 7, 8], [0, 1, 5, 6, 7, 8], [0, 1, 5, 6, 7, 8], [0, 1, 5, 6, 7, 8], [0, 1, 5, 6, 7, 8], [6], [6], [4]]
def lv : Nat → List Nat := lvOf lvs
noncomputable def code : Code := bodyOf Tryd.f35
noncomputable def fe : FE := ⟨Tryd.f35, code, lv⟩
def cuts : List Nat := [11, 14, 23, 26, 31, 34, 37, 42, 55]
abbrev X (w0 : Base) (n : Nat) : XT := xr (cx w0) 77 lv n
theorem ok (w0 : Base) : FOK (cx w0) myers_Diff.id fe := ⟨Tryd.func35, by kernel_rfl, by kernel_rfl⟩
section
variable (Z : XT) (w0 : Base) (n : Nat) (R : RT) (σ : Store) (a b m out : AV) (x y : Int) (t22 : Bool) (c : AV) (t36 t49 : Bool)
def q9 : QT := thenQ (fun env σ => Z (cAt code 55) 55 (prune (lv 55) env) σ (finQ (cx w0) Tryd.f35 n R)) (finQ (cx w0) Tryd.f35 n R)
def q10 : QT := blockQ 0 (q9 Z w0 n R)
def q11 : QT := thenQ (fun env σ => Z (cAt code 10) 10 (prune (lv 10) env) σ (q10 Z w0 n R)) (q10 Z w0 n R)
def q12 : QT := thenQ (fun env σ => pcodeX (cx w0) 77 lv n cuts Z (cAt code 17) 17 (prune (lv 17) env) σ (q11 Z w0 n R)) (q11 Z w0 n R)
def q18 : QT := blockQ 1 (q11 Z w0 n R)
def q21 : QT := thenQ (fun env σ => Z (cAt code 31) 31 (prune (lv 31) env) σ (q18 Z w0 n R)) (q18 Z w0 n R)
def q22 : QT := blockQ 2 (q21 Z w0 n R)
def q23 : QT := thenQ (fun env σ => Z (cAt code 22) 22 (prune (lv 22) env) σ (q22 Z w0 n R)) (q22 Z w0 n R)
def q24 : QT := thenQ (fun env σ => pcodeX (cx w0) 77 lv n cuts Z (cAt code 29) 29 (prune (lv 29) env) σ (q23 Z w0 n R)) (q23 Z w0 n R)
def q32 : QT := thenQ (fun env σ => Z (cAt code 42) 42 (prune (lv 42) env) σ (q18 Z w0 n R)) (q18 Z w0 n R)
def q33 : QT := blockQ 4 (q32 Z w0 n R)
def q34 : QT := thenQ (fun env σ => Z (cAt code 33) 33 (prune (lv 33) env) σ (q33 Z w0 n R)) (q33 Z w0 n R)
def q35 : QT := thenQ (fun env σ => pcodeX (cx w0) 77 lv n cuts Z (cAt code 40) 40 (prune (lv 40) env) σ (q34 Z w0 n R)) (q34 Z w0 n R)
def n10 : Prop :=
  Z (cAt code 10) 10 [(0, a), (1, b), (5, m), (6, out), (7, (.pv (.int .i64 x))), (8, (.pv (.int .i64 y)))] σ (q10 Z w0 n R)
def b11 : Prop :=
  pcodeX (cx w0) 77 lv n cuts Z (cAt code 11) 11 [(0, a), (1, b), (5, m), (6, out), (7, (.pv (.int .i64 x))), (8, (.pv (.int .i64 y)))] σ (q11 Z w0 n R)
def n14 : Prop :=
  Z (cAt code 14) 14 [(0, a), (1, b), (5, m), (6, out), (7, (.pv (.int .i64 x))), (8, (.pv (.int .i64 y))), (22, (.pv (.bool t22)))] σ (q12 Z w0 n R)
def b14 : Prop :=
  pcodeX (cx w0) 77 lv n cuts Z (cAt code 14) 14 [(0, a), (1, b), (5, m), (6, out), (7, (.pv (.int .i64 x))), (8, (.pv (.int .i64 y))), (22, (.pv (.bool t22)))] σ (q12 Z w0 n R)
def n22 : Prop :=
  Z (cAt code 22) 22 [(0, a), (1, b), (5, m), (6, out), (7, (.pv (.int .i64 x))), (8, (.pv (.int .i64 y))), (9, c)] σ (q22 Z w0 n R)
def b23 : Prop :=
  pcodeX (cx w0) 77 lv n cuts Z (cAt code 23) 23 [(0, a), (1, b), (5, m), (6, out), (7, (.pv (.int .i64 x))), (8, (.pv (.int .i64 y))), (9, c)] σ (q23 Z w0 n R)
def n26 : Prop :=
  Z (cAt code 26) 26 [(0, a), (1, b), (5, m), (6, out), (7, (.pv (.int .i64 x))), (8, (.pv (.int .i64 y))), (9, c), (36, (.pv (.bool t36)))] σ (q24 Z w0 n R)
def b26 : Prop :=
  pcodeX (cx w0) 77 lv n cuts Z (cAt code 26) 26 [(0, a), (1, b), (5, m), (6, out), (7, (.pv (.int .i64 x))), (8, (.pv (.int .i64 y))), (9, c), (36, (.pv (.bool t36)))] σ (q24 Z w0 n R)
def n31 : Prop :=
  Z (cAt code 31) 31 [(0, a), (1, b), (5, m), (6, out), (7, (.pv (.int .i64 x))), (8, (.pv (.int .i64 y))), (9, c)] σ (q18 Z w0 n R)
def b31 : Prop :=
  pcodeX (cx w0) 77 lv n cuts Z (cAt code 31) 31 [(0, a), (1, b), (5, m), (6, out), (7, (.pv (.int .i64 x))), (8, (.pv (.int .i64 y))), (9, c)] σ (q18 Z w0 n R)
def n33 : Prop :=
  Z (cAt code 33) 33 [(0, a), (1, b), (5, m), (6, out), (7, (.pv (.int .i64 x))), (8, (.pv (.int .i64 y))), (9, c)] σ (q33 Z w0 n R)
def b34 : Prop :=
  pcodeX (cx w0) 77 lv n cuts Z (cAt code 34) 34 [(0, a), (1, b), (5, m), (6, out), (7, (.pv (.int .i64 x))), (8, (.pv (.int .i64 y))), (9, c)] σ (q34 Z w0 n R)
def n37 : Prop :=
  Z (cAt code 37) 37 [(0, a), (1, b), (5, m), (6, out), (7, (.pv (.int .i64 x))), (8, (.pv (.int .i64 y))), (9, c), (49, (.pv (.bool t49)))] σ (q35 Z w0 n R)
def b37 : Prop :=
  pcodeX (cx w0) 77 lv n cuts Z (cAt code 37) 37 [(0, a), (1, b), (5, m), (6, out), (7, (.pv (.int .i64 x))), (8, (.pv (.int .i64 y))), (9, c), (49, (.pv (.bool t49)))] σ (q35 Z w0 n R)
def n42 : Prop :=
  Z (cAt code 42) 42 [(0, a), (1, b), (5, m), (6, out), (7, (.pv (.int .i64 x))), (8, (.pv (.int .i64 y))), (9, c)] σ (q18 Z w0 n R)
def b42 : Prop :=
  pcodeX (cx w0) 77 lv n cuts Z (cAt code 42) 42 [(0, a), (1, b), (5, m), (6, out), (7, (.pv (.int .i64 x))), (8, (.pv (.int .i64 y))), (9, c)] σ (q18 Z w0 n R)
def n55 : Prop :=
  Z (cAt code 55) 55 [(6, out)] σ (finQ (cx w0) Tryd.f35 n R)
def b55 : Prop :=
  pcodeX (cx w0) 77 lv n cuts Z (cAt code 55) 55 [(6, out)] σ (finQ (cx w0) Tryd.f35 n R)
def b0 : Prop :=
  pcodeX (cx w0) 77 lv n cuts Z code 0 (argsE 0 [a, b]) σ (finQ (cx w0) Tryd.f35 n R)
end
variable {Z : XT} {w0 : Base} {n : Nat} {R : RT} {σ τ : Store} {a b m out c a' b' m' out' c' : AV} {x y x' y' : Int} {t22 t36 t49 : Bool}
theorem n10_in (h : b11 (X w0 n) w0 n R σ a b m out x y) : n10 (X w0 n) w0 n R σ a b m out x y := xr_round (cxOK w0) (S := cuts) (by kernel_rfl : cAt code 10 = .loop (cAt code 11)) h
theorem n10_weak (e : EWeak (cx w0) n [(0, a), (1, b), (5, m), (6, out), (7, (.pv (.int .i64 x))), (8, (.pv (.int .i64 y)))] σ [(0, a'), (1, b'), (5, m'), (6, out'), (7, (.pv (.int .i64 x'))), (8, (.pv (.int .i64 y')))] τ) (h : n10 (X w0 n) w0 n R τ a' b' m' out' x' y') : n10 (X w0 n) w0 n R σ a b m out x y := xr_weak (L := lv) (k := 10) (by kernel_rfl : cAt code 10 = .loop (cAt code 11)) e h
theorem b11_eq : b11 Z w0 n R σ a b m out x y = (
  opt (aLen ti43.td a) fun t15 => isI .i64 t15 fun t15_1 => condB (decide ((x : Int) < t15_1)) (n14 Z w0 n R σ a b m out x y true) (opt (aLen ti43.td b) fun t20 => isI .i64 t20 fun t20_1 => n14 Z w0 n R σ a b m out x y (decide ((y : Int) < t20_1)))) := by kernel_rfl
theorem b14_eq : b14 Z w0 n R σ a b m out x y t22 = (
  condB t22 (opt (aBuild tabS ti82 [(0, (.pv (.int .i64 x))), (2, (.pv (.int .i64 y)))]) fun t25 => opt (aStore (σ ++ [.cells 82 (AV.ofValue ti82.zero).cells]) ti82 (.ptr (List.length σ) 0) t25) fun σ' => n22 Z w0 n R σ' a b m out x y (.ptr (List.length σ) 0)) (n55 Z w0 n R σ out)) := by kernel_rfl
theorem n14_in (h : b14 (X w0 n) w0 n R σ a b m out x y t22) : n14 (X w0 n) w0 n R σ a b m out x y t22 := xr_in (S := cuts) (by kernel_rfl) h
theorem n22_in (h : b23 (X w0 n) w0 n R σ a b m out x y c) : n22 (X w0 n) w0 n R σ a b m out x y c := xr_round (cxOK w0) (S := cuts) (by kernel_rfl : cAt code 22 = .loop (cAt code 23)) h
theorem b23_eq : b23 Z w0 n R σ a b m out x y c = (
  opt (aLen ti43.td a) fun t28 => isI .i64 t28 fun t28_1 => condB (decide ((x : Int) < t28_1)) (opt (aFieldAddr tabS ti107.td m 0) fun t31 => opt (aLoad σ ti58 t31) fun t32 => opt (aIndexAddr σ tabS ti58.td t32 x) fun t34 => opt (aLoad σ ti4 t34) fun t35 => isB t35 fun t35_1 => n26 Z w0 n R σ a b m out x y c t35_1) (n26 Z w0 n R σ a b m out x y c false)) := by kernel_rfl
theorem b26_eq : b26 Z w0 n R σ a b m out x y c t36 = (
  condB t36 (n22 Z w0 n R σ a b m out (IntKind.wrap .i64 (x + 1)) y c) (n31 Z w0 n R σ a b m out x y c)) := by kernel_rfl
theorem n26_in (h : b26 (X w0 n) w0 n R σ a b m out x y c t36) : n26 (X w0 n) w0 n R σ a b m out x y c t36 := xr_in (S := cuts) (by kernel_rfl) h
theorem b31_eq : b31 Z w0 n R σ a b m out x y c = (
  n33 Z w0 n R σ a b m out x y c) := by kernel_rfl
theorem n31_in (h : b31 (X w0 n) w0 n R σ a b m out x y c) : n31 (X w0 n) w0 n R σ a b m out x y c := xr_in (S := cuts) (by kernel_rfl) h
theorem n33_in (h : b34 (X w0 n) w0 n R σ a b m out x y c) : n33 (X w0 n) w0 n R σ a b m out x y c := xr_round (cxOK w0) (S := cuts) (by kernel_rfl : cAt code 33 = .loop (cAt code 34)) h
theorem b34_eq : b34 Z w0 n R σ a b m out x y c = (
  opt (aLen ti43.td b) fun t41 => isI .i64 t41 fun t41_1 => condB (decide ((y : Int) < t41_1)) (opt (aFieldAddr tabS ti107.td m 1) fun t44 => opt (aLoad σ ti58 t44) fun t45 => opt (aIndexAddr σ tabS ti58.td t45 y) fun t47 => opt (aLoad σ ti4 t47) fun t48 => isB t48 fun t48_1 => n37 Z w0 n R σ a b m out x y c t48_1) (n37 Z w0 n R σ a b m out x y c false)) := by kernel_rfl
theorem b37_eq : b37 Z w0 n R σ a b m out x y c t49 = (
  condB t49 (n33 Z w0 n R σ a b m out x (IntKind.wrap .i64 (y + 1)) c) (n42 Z w0 n R σ a b m out x y c)) := by kernel_rfl
theorem n37_in (h : b37 (X w0 n) w0 n R σ a b m out x y c t49) : n37 (X w0 n) w0 n R σ a b m out x y c t49 := xr_in (S := cuts) (by kernel_rfl) h
theorem b42_eq : b42 Z w0 n R σ a b m out x y c = (
  opt (aFieldAddr tabS ti82.td c 0) fun t53 => opt (aLoad σ ti3 t53) fun t54 => isI .i64 t54 fun t54_1 => opt (aFieldAddr tabS ti82.td c 2) fun t57 => opt (aLoad σ ti3 t57) fun t58 => isI .i64 t58 fun t58_1 => opt (aFieldAddr tabS ti82.td c 1) fun t60 => opt (aStore σ ti3 t60 (.pv (.int .i64 (IntKind.wrap .i64 (x - t54_1))))) fun σ' => opt (aFieldAddr tabS ti82.td c 3) fun t61 => opt (aStore σ' ti3 t61 (.pv (.int .i64 (IntKind.wrap .i64 (y - t58_1))))) fun σ'_1 => opt (aFieldAddr tabS ti82.td c 1) fun t62 => opt (aLoad σ'_1 ti3 t62) fun t63 => isI .i64 t63 fun t63_1 => opt (aFieldAddr tabS ti82.td c 3) fun t64 => opt (aLoad σ'_1 ti3 t64) fun t65 => isI .i64 t65 fun t65_1 => condB (decide (((IntKind.wrap .i64 (t63_1 + t65_1)) : Int) > 0)) (opt (aLoad σ'_1 ti82 c) fun t69 => opt2 (aBuildSlice σ'_1 ti82 false 1 [(0, t69)]) fun t70 σ'_2 => opt2 (aAppend σ'_2 ti82 out t70) fun t71 σ'_3 => n10 Z w0 n R σ'_3 a b m t71 x y) (n10 Z w0 n R σ'_1 a b m out (IntKind.wrap .i64 (x + 1)) (IntKind.wrap .i64 (y + 1)))) := by kernel_rfl
theorem n42_in (h : b42 (X w0 n) w0 n R σ a b m out x y c) : n42 (X w0 n) w0 n R σ a b m out x y c := xr_in (S := cuts) (by kernel_rfl) h
theorem b55_eq : b55 Z w0 n R σ out = (
  FinK (cx w0) n out σ R) := by kernel_rfl
theorem n55_in (h : b55 (X w0 n) w0 n R σ out) : n55 (X w0 n) w0 n R σ out := xr_in (S := cuts) (by kernel_rfl) h
theorem b0_eq : b0 Z w0 n R σ a b = (
  SCalls (cx w0) myers_mark.id [a, b] σ fun r σ' => opt (aStore (σ' ++ [.cells 107 (AV.ofValue ti107.zero).cells]) ti107 (.ptr (List.length σ') 0) r) fun σ'_1 => n10 Z w0 n R σ'_1 a b (.ptr (List.length σ') 0) .nilsl 0 0) := by kernel_rfl
theorem calls (h : b0 (X w0 (List.length σ)) w0 (List.length σ) R σ a b) : SCalls (cx w0) myers_Diff.id [a, b] σ R :=
  xr_enter (cxOK w0) (x := fe) (S := cuts) (myers_Diff.ok w0) (by kernel_rfl) h
attribute [irreducible] n10 b11 n14 b14 n22 b23 n26 b26 n31 b31 n33 b34 n37 b37 n42 b42 n55 b55 b0
end myers_Diff
namespace myers_Distance
def lvs : List (List Nat) := [[0, 1], [0, 1], [0, 1], [0, 1], [0, 1, 5], [0, 1, 5], [0, 1, 5], [5, 10, 11, 12], [5, 10, 11, 12], [5, 10, 11, 12], [5, 10, 11, 12], [5, 10, 11, 12, 13], [5, 10, 11, 12, 13], [5, 10, 11, 12], [5], [5, 10, 11, 12], [5, 10, 11, 12], [5, 10, 11, 12], [5, 10, 11, 12], [5, 7, 10, 11, 12], [5, 10, 11, 12], [5], [5], [4]]
def lv : Nat → List Nat := lvOf lvs
noncomputable def code : Code := bodyOf Tryd.f23
noncomputable def fe : FE := ⟨Tryd.f23, code, lv⟩
def cuts : List Nat := [9, 21]
abbrev X (w0 : Base) (n : Nat) : XT := xr (cx w0) 25 lv n
theorem ok (w0 : Base) : FOK (cx w0) myers_Distance.id fe := ⟨Tryd.func23, by kernel_rfl, by kernel_rfl⟩
section
variable (Z : XT) (w0 : Base) (n : Nat) (R : RT) (σ : Store) (n_ : Int) (t10 : AV) (t11 t12 : Int) (a b : AV)
def q5 : QT := thenQ (fun env σ => Z (cAt code 21) 21 (prune (lv 21) env) σ (finQ (cx w0) Tryd.f23 n R)) (finQ (cx w0) Tryd.f23 n R)
def q8 : QT := blockQ 0 (q5 Z w0 n R)
def q9 : QT := thenQ (fun env σ => Z (cAt code 8) 8 (prune (lv 8) env) σ (q8 Z w0 n R)) (q8 Z w0 n R)
def n8 : Prop :=
  Z (cAt code 8) 8 [(5, (.pv (.int .i64 n_))), (10, t10), (11, (.pv (.int .i64 t11))), (12, (.pv (.int .i64 t12)))] σ (q8 Z w0 n R)
def b9 : Prop :=
  pcodeX (cx w0) 25 lv n cuts Z (cAt code 9) 9 [(5, (.pv (.int .i64 n_))), (10, t10), (11, (.pv (.int .i64 t11))), (12, (.pv (.int .i64 t12)))] σ (q9 Z w0 n R)
def n21 : Prop :=
  Z (cAt code 21) 21 [(5, (.pv (.int .i64 n_)))] σ (finQ (cx w0) Tryd.f23 n R)
def b21 : Prop :=
  pcodeX (cx w0) 25 lv n cuts Z (cAt code 21) 21 [(5, (.pv (.int .i64 n_)))] σ (finQ (cx w0) Tryd.f23 n R)
def b0 : Prop :=
  pcodeX (cx w0) 25 lv n cuts Z code 0 (argsE 0 [a, b]) σ (finQ (cx w0) Tryd.f23 n R)
end
variable {Z : XT} {w0 : Base} {n : Nat} {R : RT} {σ τ : Store} {n_ t11 t12 n_' t11' t12' : Int} {t10 a b t10' : AV}
theorem n8_in (h : b9 (X w0 n) w0 n R σ n_ t10 t11 t12) : n8 (X w0 n) w0 n R σ n_ t10 t11 t12 := xr_round (cxOK w0) (S := cuts) (by kernel_rfl : cAt code 8 = .loop (cAt code 9)) h
theorem n8_weak (e : EWeak (cx w0) n [(5, (.pv (.int .i64 n_))), (10, t10), (11, (.pv (.int .i64 t11))), (12, (.pv (.int .i64 t12)))] σ [(5, (.pv (.int .i64 n_'))), (10, t10'), (11, (.pv (.int .i64 t11'))), (12, (.pv (.int .i64 t12')))] τ) (h : n8 (X w0 n) w0 n R τ n_' t10' t11' t12') : n8 (X w0 n) w0 n R σ n_ t10 t11 t12 := xr_weak (L := lv) (k := 8) (by kernel_rfl : cAt code 8 = .loop (cAt code 9)) e h
theorem b9_eq : b9 Z w0 n R σ n_ t10 t11 t12 = (
  condB (decide ((t12 : Int) < t11)) (opt (aIndexAddr σ tabS ti79.td t10 t12) fun t14 => opt (aLoad σ ti82 t14) fun t15 => opt (aStore (σ ++ [.cells 82 (AV.ofValue ti82.zero).cells]) ti82 (.ptr (List.length σ) 0) t15) fun σ' => opt (aFieldAddr tabS ti82.td (.ptr (List.length σ) 0) 1) fun t17 => opt (aLoad σ' ti3 t17) fun t18 => isI .i64 t18 fun t18_1 => opt (aFieldAddr tabS ti82.td (.ptr (List.length σ) 0) 3) fun t19 => opt (aLoad σ' ti3 t19) fun t20 => isI .i64 t20 fun t20_1 => n8 Z w0 n R σ' (IntKind.wrap .i64 (n_ + (IntKind.wrap .i64 (t18_1 + t20_1)))) t10 t11 (IntKind.wrap .i64 (t12 + 1))) (n21 Z w0 n R σ n_)) := by kernel_rfl
theorem b21_eq : b21 Z w0 n R σ n_ = (
  FinK (cx w0) n (.pv (.int .i64 n_)) σ R) := by kernel_rfl
theorem n21_in (h : b21 (X w0 n) w0 n R σ n_) : n21 (X w0 n) w0 n R σ n_ := xr_in (S := cuts) (by kernel_rfl) h
theorem b0_eq : b0 Z w0 n R σ a b = (
  SCalls (cx w0) myers_Diff.id [a, b] σ fun r σ' => opt (aLen ti79.td r) fun t11 => isI .i64 t11 fun t11_1 => n8 Z w0 n R σ' 0 r t11_1 0) := by kernel_rfl
theorem calls (h : b0 (X w0 (List.length σ)) w0 (List.length σ) R σ a b) : SCalls (cx w0) myers_Distance.id [a, b] σ R :=
  xr_enter (cxOK w0) (x := fe) (S := cuts) (myers_Distance.ok w0) (by kernel_rfl) h
attribute [irreducible] n8 b9 n21 b21 b0
end myers_Distance
namespace myers_Common
def lvs : List (List Nat) := [[0, 1], [0, 1], [0, 1], [0, 1], [4]]
def lv : Nat → List Nat := lvOf lvs
noncomputable def code : Code := bodyOf Tryd.f13
noncomputable def fe : FE := ⟨Tryd.f13, code, lv⟩
def cuts : List Nat := []
abbrev X (w0 : Base) (n : Nat) : XT := xr (cx w0) 15 lv n
theorem ok (w0 : Base) : FOK (cx w0) myers_Common.id fe := ⟨Tryd.func13, by kernel_rfl, by kernel_rfl⟩
section
variable (Z : XT) (w0 : Base) (n : Nat) (R : RT) (σ : Store) (a b : AV)
def b0 : Prop :=
  pcodeX (cx w0) 15 lv n cuts Z code 0 (argsE 0 [a, b]) σ (finQ (cx w0) Tryd.f13 n R)
end
variable {Z : XT} {w0 : Base} {n : Nat} {R : RT} {σ τ : Store} {a b : AV}
theorem b0_eq : b0 Z w0 n R σ a b = (
  opt (aLen ti43.td a) fun t6 => isI .i64 t6 fun t6_1 => opt (aLen ti43.td b) fun t8 => isI .i64 t8 fun t8_1 => SCalls (cx w0) myers_Distance.id [a, b] σ fun r σ' => isI .i64 r fun t12 => ((2 : Int) ≠ 0 ∧ (FinK (cx w0) n (.pv (.int .i64 (IntKind.wrap .i64 (Int.tdiv (IntKind.wrap .i64 ((IntKind.wrap .i64 (t6_1 + t8_1)) - t12)) 2)))) σ' R))) := by kernel_rfl
theorem calls (h : b0 (X w0 (List.length σ)) w0 (List.length σ) R σ a b) : SCalls (cx w0) myers_Common.id [a, b] σ R :=
  xr_enter (cxOK w0) (x := fe) (S := cuts) (myers_Common.ok w0) (by kernel_rfl) h
attribute [irreducible] b0
end myers_Common
end Go.Sv
