/- What the code of Go functions comes to over abstract stores, piece by piece; each equation by the kernel. Printed by a program of this session. What package myers answers: the changes of a script, as many as there are marks. What package myers answers: a script's changes come to as many rows as a shortest one takes out and puts in; the length of a longest common subsequence. What package myers answers: how many rows a shortest script takes out and puts in; the length of a longest common subsequence. -/
import Derived.Test.YtimmjplgogpglaaDoorSvT
import Derived.KernelRfl
import Derived.Test.YtimmjplgogpglaaDoorFdK
set_option linter.unusedVariables false
set_option maxRecDepth 100000
set_option linter.unusedSimpArgs false
section
namespace Go.Sv
open Go Go.Proofs
namespace myers_Diff
def lvs : List (List Nat) := [[0, 1], [0, 1], [0, 1], [0, 1], [0, 1, 5], [0, 1, 5], [0, 1, 5, 6], [0, 1, 5, 6], [0, 1, 5, 6, 7, 8], [0, 1, 5, 6, 7, 8], [0, 1, 5, 6, 7, 8], [0, 1, 5, 6, 7, 8], [0, 1, 5, 6, 7, 8], [0, 1, 5, 6, 7, 8], [0, 1, 5, 6, 7, 8, 22], [0, 1, 5, 6, 7, 8], [6], [0, 1, 5, 6, 7, 8], [0, 1, 5, 6, 7, 8], [0, 1, 5, 6, 7, 8], [0, 1, 5, 6, 7, 8, 9], [0, 1, 5, 6, 7, 8, 9], [0, 1, 5, 6, 7, 8, 9], [0, 1, 5, 6, 7, 8, 9], [0, 1, 5, 6, 7, 8, 9], [0, 1, 5, 6, 7, 8, 9], [0, 1, 5, 6, 7, 8, 9, 36], [0, 1, 5, 6, 7, 8, 9], [0, 1, 5, 6, 7, 8, 9], [0, 1, 5, 6, 7, 8, 9], [0, 1, 5, 6, 7, 8, 9], [0, 1, 5, 6, 7, 8, 9], [0, 1, 5, 6, 7, 8, 9], [0, 1, 5, 6, 7, 8, 9], [0, 1, 5, 6, 7, 8, 9], [0, 1, 5, 6, 7, 8, 9], [0, 1, 5, 6, 7, 8, 9], [0, 1, 5, 6, 7, 8, 9, 49], [0, 1, 5, 6, 7, 8, 9], [0, 1, 5, 6, 7, 8, 9], [0, 1, 5, 6, 7, 8, 9], [0, 1, 5, 6, 7, 8, 9], [0, 1, 5, 6, 7, 8, 9], [0, 1, 5, 6, 7, 8, 9], [0, 1, 5, 6, 7, 8, 9], [0, 1, 5, 6, 7, 8, 9], [0, 1, 5, 6, 7, 8, 9], [0, 1, 5, 6, 7, 8, 9, 67], [0, 1, 5, 6, 7, 8, 9], [0, 1, 5, 6, 7, 8, 9], [0, 1, 5, 6, 7, 8], [0, 1, 5, 6, 7, 8], [0, 1, 5, 6, 7, 8], [0, 1, 5, 6, 7, 8], [0, 1, 5, 6, 7, 8], [6], [6], [4]]
def lv : Nat → List Nat := lvOf lvs
noncomputable def code : Code := bodyOf Tryd.f35
noncomputable def fe : FE := ⟨Tryd.f35, code, lv⟩
def cuts : List Nat := [11, 14, 23, 26, 31, 34, 37, 42, 55]
abbrev X (w0 : Base) (n : Nat) : XT := xr (cx w0) 77 lv n
theorem ok (w0 : Base) : FOK (cx w0) myers_Diff.id fe := ⟨Tryd.func35, by kernel_rfl, by kernel_rfl⟩
section
variable (Z : XT) (w0 : Base) (n : Nat) (R : RT) (σ : Store) (a b m out : AV) (x y : Int) (t22 : Bool) (c : AV) (t36 t49 : Bool)
def q9 : QT := thenQ (fun env σ => Z (cAt code 55) 55 (prune (lv 55) env) σ (finQ (cx w0) Tryd.f35 n R)) (finQ (cx w0) Tryd.f35 n R)
def q10 : QT := blockQ 0 (q9 Z w0 n R)
def q11 : QT := thenQ (fun env σ => Z (cAt code 10) 10 (prune (lv 10) env) σ (q10 Z w0 n R)) (q10 Z w0 n R)
def q12 : QT := thenQ (fun env σ => pcodeX (cx w0) 77 lv n cuts Z (cAt code 17) 17 (prune (lv 17) env) σ (q11 Z w0 n R)) (q11 Z w0 n R)
def q18 : QT := blockQ 1 (q11 Z w0 n R)
def q21 : QT := thenQ (fun env σ => Z (cAt code 31) 31 (prune (lv 31) env) σ (q18 Z w0 n R)) (q18 Z w0 n R)
def q22 : QT := blockQ 2 (q21 Z w0 n R)
def q23 : QT := thenQ (fun env σ => Z (cAt code 22) 22 (prune (lv 22) env) σ (q22 Z w0 n R)) (q22 Z w0 n R)
def q24 : QT := thenQ (fun env σ => pcodeX (cx w0) 77 lv n cuts Z (cAt code 29) 29 (prune (lv 29) env) σ (q23 Z w0 n R)) (q23 Z w0 n R)
def q32 : QT := thenQ (fun env σ => Z (cAt code 42) 42 (prune (lv 42) env) σ (q18 Z w0 n R)) (q18 Z w0 n R)
def q33 : QT := blockQ 4 (q32 Z w0 n R)
def q34 : QT := thenQ (fun env σ => Z (cAt code 33) 33 (prune (lv 33) env) σ (q33 Z w0 n R)) (q33 Z w0 n R)
def q35 : QT := thenQ (fun env σ => pcodeX (cx w0) 77 lv n cuts Z (cAt code 40) 40 (prune (lv 40) env) σ (q34 Z w0 n R)) (q34 Z w0 n R)
def n10 : Prop :=
  Z (cAt code 10) 10 [(0, a), (1, b), (5, m), (6, out), (7, (.pv (.int .i64 x))), (8, (.pv (.int .i64 y)))] σ (q10 Z w0 n R)
def b11 : Prop :=
  pcodeX (cx w0) 77 lv n cuts Z (cAt code 11) 11 [(0, a), (1, b), (5, m), (6, out), (7, (.pv (.int .i64 x))), (8, (.pv (.int .i64 y)))] σ (q11 Z w0 n R)
def n14 : Prop :=
  Z (cAt code 14) 14 [(0, a), (1, b), (5, m), (6, out), (7, (.pv (.int .i64 x))), (8, (.pv (.int .i64 y))), (22, (.pv (.bool t22)))] σ (q12 Z w0 n R)
def b14 : Prop :=
  pcodeX (cx w0) 77 lv n cuts Z (cAt code 14) 14 [(0, a), (1, b), (5, m), (6, out), (7, (.pv (.int .i64 x))), (8, (.pv (.int .i64 y))), (22, (.pv (.bool t22)))] σ (q12 Z w0 n R)
def n22 : Prop :=
  Z (cAt code 22) 22 [(0, a), (1, b), (5, m), (6, out), (7, (.pv (.int .i64 x))), (8, (.pv (.int .i64 y))), (9, c)] σ (q22 Z w0 n R)
def b23 : Prop :=
  pcodeX (cx w0) 77 lv n cuts Z (cAt code 23) 23 [(0, a), (1, b), (5, m), (6, out), (7, (.pv (.int .i64 x))), (8, (.pv (.int .i64 y))), (9, c)] σ (q23 Z w0 n R)
def n26 : Prop :=
  Z (cAt code 26) 26 [(0, a), (1, b), (5, m), (6, out), (7, (.pv (.int .i64 x))), (8, (.pv (.int .i64 y))), (9, c), (36, (.pv (.bool t36)))] σ (q24 Z w0 n R)
def b26 : Prop :=
  pcodeX (cx w0) 77 lv n cuts Z (cAt code 26) 26 [(0, a), (1, b), (5, m), (6, out), (7, (.pv (.int .i64 x))), (8, (.pv (.int .i64 y))), (9, c), (36, (.pv (.bool t36)))] σ (q24 Z w0 n R)
def n31 : Prop :=
  Z (cAt code 31) 31 [(0, a), (1, b), (5, m), (6, out), (7, (.pv (.int .i64 x))), (8, (.pv (.int .i64 y))), (9, c)] σ (q18 Z w0 n R)
def b31 : Prop :=
  pcodeX (cx w0) 77 lv n cuts Z (cAt code 31) 31 [(0, a), (1, b), (5, m), (6, out), (7, (.pv (.int .i64 x))), (8, (.pv (.int .i64 y))), (9, c)] σ (q18 Z w0 n R)
def n33 : Prop :=
  Z (cAt code 33) 33 [(0, a), (1, b), (5, m), (6, out), (7, (.pv (.int .i64 x))), (8, (.pv (.int .i64 y))), (9, c)] σ (q33 Z w0 n R)
def b34 : Prop :=
  pcodeX (cx w0) 77 lv n cuts Z (cAt code 34) 34 [(0, a), (1, b), (5, m), (6, out), (7, (.pv (.int .i64 x))), (8, (.pv (.int .i64 y))), (9, c)] σ (q34 Z w0 n R)
def n37 : Prop :=
  Z (cAt code 37) 37 [(0, a), (1, b), (5, m), (6, out), (7, (.pv (.int .i64 x))), (8, (.pv (.int .i64 y))), (9, c), (49, (.pv (.bool t49)))] σ (q35 Z w0 n R)
def b37 : Prop :=
  pcodeX (cx w0) 77 lv n cuts Z (cAt code 37) 37 [(0, a), (1, b), (5, m), (6, out), (7, (.pv (.int .i64 x))), (8, (.pv (.int .i64 y))), (9, c), (49, (.pv (.bool t49)))] σ (q35 Z w0 n R)
def n42 : Prop :=
  Z (cAt code 42) 42 [(0, a), (1, b), (5, m), (6, out), (7, (.pv (.int .i64 x))), (8, (.pv (.int .i64 y))), (9, c)] σ (q18 Z w0 n R)
def b42 : Prop :=
  pcodeX (cx w0) 77 lv n cuts Z (cAt code 42) 42 [(0, a), (1, b), (5, m), (6, out), (7, (.pv (.int .i64 x))), (8, (.pv (.int .i64 y))), (9, c)] σ (q18 Z w0 n R)
def n55 : Prop :=
  Z (cAt code 55) 55 [(6, out)] σ (finQ (cx w0) Tryd.f35 n R)
def b55 : Prop :=
  pcodeX (cx w0) 77 lv n cuts Z (cAt code 55) 55 [(6, out)] σ (finQ (cx w0) Tryd.f35 n R)
def b0 : Prop :=
  pcodeX (cx w0) 77 lv n cuts Z code 0 (argsE 0 [a, b]) σ (finQ (cx w0) Tryd.f35 n R)
end
variable {Z : XT} {w0 : Base} {n : Nat} {R : RT} {σ τ : Store} {a b m out c a' b' m' out' c' : AV} {x y x' y' : Int} {t22 t36 t49 : Bool}
theorem n10_in (h : b11 (X w0 n) w0 n R σ a b m out x y) : n10 (X w0 n) w0 n R σ a b m out x y := xr_round (cxOK w0) (S := cuts) (by kernel_rfl : cAt code 10 = .loop (cAt code 11)) h
theorem n10_weak (e : EWeak (cx w0) n [(0, a), (1, b), (5, m), (6, out), (7, (.pv (.int .i64 x))), (8, (.pv (.int .i64 y)))] σ [(0, a'), (1, b'), (5, m'), (6, out'), (7, (.pv (.int .i64 x'))), (8, (.pv (.int .i64 y')))] τ) (h : n10 (X w0 n) w0 n R τ a' b' m' out' x' y') : n10 (X w0 n) w0 n R σ a b m out x y := xr_weak (L := lv) (k := 10) (by kernel_rfl : cAt code 10 = .loop (cAt code 11)) e h
theorem b11_eq : b11 Z w0 n R σ a b m out x y = (
  opt (aLen ti43.td a) fun t15 => isI .i64 t15 fun t15_1 => condB (decide ((x : Int) < t15_1)) (n14 Z w0 n R σ a b m out x y true) (opt (aLen ti43.td b) fun t20 => isI .i64 t20 fun t20_1 => n14 Z w0 n R σ a b m out x y (decide ((y : Int) < t20_1)))) := by kernel_rfl
theorem b14_eq : b14 Z w0 n R σ a b m out x y t22 = (
  condB t22 (opt (aBuild tabS ti82 [(0, (.pv (.int .i64 x))), (2, (.pv (.int .i64 y)))]) fun t25 => opt (aStore (σ ++ [.cells 82 (AV.ofValue ti82.zero).cells]) ti82 (.ptr (List.length σ) 0) t25) fun σ' => n22 Z w0 n R σ' a b m out x y (.ptr (List.length σ) 0)) (n55 Z w0 n R σ out)) := by kernel_rfl
theorem n14_in (h : b14 (X w0 n) w0 n R σ a b m out x y t22) : n14 (X w0 n) w0 n R σ a b m out x y t22 := xr_in (S := cuts) (by kernel_rfl) h
theorem n22_in (h : b23 (X w0 n) w0 n R σ a b m out x y c) : n22 (X w0 n) w0 n R σ a b m out x y c := xr_round (cxOK w0) (S := cuts) (by kernel_rfl : cAt code 22 = .loop (cAt code 23)) h
theorem b23_eq : b23 Z w0 n R σ a b m out x y c = (
  opt (aLen ti43.td a) fun t28 => isI .i64 t28 fun t28_1 => condB (decide ((x : Int) < t28_1)) (opt (aFieldAddr tabS ti107.td m 0) fun t31 => opt (aLoad σ ti58 t31) fun t32 => opt (aIndexAddr σ tabS ti58.td t32 x) fun t34 => opt (aLoad σ ti4 t34) fun t35 => isB t35 fun t35_1 => n26 Z w0 n R σ a b m out x y c t35_1) (n26 Z w0 n R σ a b m out x y c false)) := by kernel_rfl
theorem b26_eq : b26 Z w0 n R σ a b m out x y c t36 = (
  condB t36 (n22 Z w0 n R σ a b m out (IntKind.wrap .i64 (x + 1)) y c) (n31 Z w0 n R σ a b m out x y c)) := by kernel_rfl
theorem n26_in (h : b26 (X w0 n) w0 n R σ a b m out x y c t36) : n26 (X w0 n) w0 n R σ a b m out x y c t36 := xr_in (S := cuts) (by kernel_rfl) h
theorem b31_eq : b31 Z w0 n R σ a b m out x y c = (
  n33 Z w0 n R σ a b m out x y c) := by kernel_rfl
theorem n31_in (h : b31 (X w0 n) w0 n R σ a b m out x y c) : n31 (X w0 n) w0 n R σ a b m out x y c := xr_in (S := cuts) (by kernel_rfl) h
theorem n33_in (h : b34 (X w0 n) w0 n R σ a b m out x y c) : n33 (X w0 n) w0 n R σ a b m out x y c := xr_round (cxOK w0) (S := cuts) (by kernel_rfl : cAt code 33 = .loop (cAt code 34)) h
theorem b34_eq : b34 Z w0 n R σ a b m out x y c = (
  opt (aLen ti43.td b) fun t41 => isI .i64 t41 fun t41_1 => condB (decide ((y : Int) < t41_1)) (opt (aFieldAddr tabS ti107.td m 1) fun t44 => opt (aLoad σ ti58 t44) fun t45 => opt (aIndexAddr σ tabS ti58.td t45 y) fun t47 => opt (aLoad σ ti4 t47) fun t48 => isB t48 fun t48_1 => n37 Z w0 n R σ a b m out x y c t48_1) (n37 Z w0 n R σ a b m out x y c false)) := by kernel_rfl
theorem b37_eq : b37 Z w0 n R σ a b m out x y c t49 = (
  condB t49 (n33 Z w0 n R σ a b m out x (IntKind.wrap .i64 (y + 1)) c) (n42 Z w0 n R σ a b m out x y c)) := by kernel_rfl
theorem n37_in (h : b37 (X w0 n) w0 n R σ a b m out x y c t49) : n37 (X w0 n) w0 n R σ a b m out x y c t49 := xr_in (S := cuts) (by kernel_rfl) h
theorem b42_eq : b42 Z w0 n R σ a b m out x y c = (
  opt (aFieldAddr tabS ti82.td c 0) fun t53 => opt (aLoad σ ti3 t53) fun t54 => isI .i64 t54 fun t54_1 => opt (aFieldAddr tabS ti82.td c 2) fun t57 => opt (aLoad σ ti3 t57) fun t58 => isI .i64 t58 fun t58_1 => opt (aFieldAddr tabS ti82.td c 1) fun t60 => opt (aStore σ ti3 t60 (.pv (.int .i64 (IntKind.wrap .i64 (x - t54_1))))) fun σ' => opt (aFieldAddr tabS ti82.td c 3) fun t61 => opt (aStore σ' ti3 t61 (.pv (.int .i64 (IntKind.wrap .i64 (y - t58_1))))) fun σ'_1 => opt (aFieldAddr tabS ti82.td c 1) fun t62 => opt (aLoad σ'_1 ti3 t62) fun t63 => isI .i64 t63 fun t63_1 => opt (aFieldAddr tabS ti82.td c 3) fun t64 => opt (aLoad σ'_1 ti3 t64) fun t65 => isI .i64 t65 fun t65_1 => condB (decide (((IntKind.wrap .i64 (t63_1 + t65_1)) : Int) > 0)) (opt (aLoad σ'_1 ti82 c) fun t69 => opt2 (aBuildSlice σ'_1 ti82 false 1 [(0, t69)]) fun t70 σ'_2 => opt2 (aAppend σ'_2 ti82 out t70) fun t71 σ'_3 => n10 Z w0 n R σ'_3 a b m t71 x y) (n10 Z w0 n R σ'_1 a b m out (IntKind.wrap .i64 (x + 1)) (IntKind.wrap .i64 (y + 1)))) := by kernel_rfl
theorem n42_in (h : b42 (X w0 n) w0 n R σ a b m out x y c) : n42 (X w0 n) w0 n R σ a b m out x y c := xr_in (S := cuts) (by kernel_rfl) h
theorem b55_eq : b55 Z w0 n R σ out = (
  FinK (cx w0) n out σ R) := by kernel_rfl
theorem n55_in (h : b55 (X w0 n) w0 n R σ out) : n55 (X w0 n) w0 n R σ out := xr_in (S := cuts) (by kernel_rfl) h
theorem b0_eq : b0 Z w0 n R σ a b = (
  SCalls (cx w0) myers_mark.id [a, b] σ fun r σ' => opt (aStore (σ' ++ [.cells 107 (AV.ofValue ti107.zero).cells]) ti107 (.ptr (List.length σ') 0) r) fun σ'_1 => n10 Z w0 n R σ'_1 a b (.ptr (List.length σ') 0) .nilsl 0 0) := by kernel_rfl
theorem calls (h : b0 (X w0 (List.length σ)) w0 (List.length σ) R σ a b) : SCalls (cx w0) myers_Diff.id [a, b] σ R :=
  xr_enter (cxOK w0) (x := fe) (S := cuts) (myers_Diff.ok w0) (by kernel_rfl) h
attribute [irreducible] n10 b11 n14 b14 n22 b23 n26 b26 n31 b31 n33 b34 n37 b37 n42 b42 n55 b55 b0
end myers_Diff
namespace myers_Distance
def lvs : List (List Nat) := [[0, 1], [0, 1], [0, 1], [0, 1], [0, 1, 5], [0, 1, 5], [0, 1, 5], [5, 10, 11, 12], [5, 10, 11, 12], [5, 10, 11, 12], [5, 10, 11, 12], [5, 10, 11, 12, 13], [5, 10, 11, 12, 13], [5, 10, 11, 12], [5], [5, 10, 11, 12], [5, 10, 11, 12], [5, 10, 11, 12], [5, 10, 11, 12], [5, 7, 10, 11, 12], [5, 10, 11, 12], [5], [5], [4]]
def lv : Nat → List Nat := lvOf lvs
noncomputable def code : Code := bodyOf Tryd.f23
noncomputable def fe : FE := ⟨Tryd.f23, code, lv⟩
def cuts : List Nat := [9, 21]
abbrev X (w0 : Base) (n : Nat) : XT := xr (cx w0) 25 lv n
theorem ok (w0 : Base) : FOK (cx w0) myers_Distance.id fe := ⟨Tryd.func23, by kernel_rfl, by kernel_rfl⟩
section
variable (Z : XT) (w0 : Base) (n : Nat) (R : RT) (σ : Store) (n_ : Int) (t10 : AV) (t11 t12 : Int) (a b : AV)
def q5 : QT := thenQ (fun env σ => Z (cAt code 21) 21 (prune (lv 21) env) σ (finQ (cx w0) Tryd.f23 n R)) (finQ (cx w0) Tryd.f23 n R)
def q8 : QT := blockQ 0 (q5 Z w0 n R)
def q9 : QT := thenQ (fun env σ => Z (cAt code 8) 8 (prune (lv 8) env) σ (q8 Z w0 n R)) (q8 Z w0 n R)
def n8 : Prop :=
  Z (cAt code 8) 8 [(5, (.pv (.int .i64 n_))), (10, t10), (11, (.pv (.int .i64 t11))), (12, (.pv (.int .i64 t12)))] σ (q8 Z w0 n R)
def b9 : Prop :=
  pcodeX (cx w0) 25 lv n cuts Z (cAt code 9) 9 [(5, (.pv (.int .i64 n_))), (10, t10), (11, (.pv (.int .i64 t11))), (12, (.pv (.int .i64 t12)))] σ (q9 Z w0 n R)
def n21 : Prop :=
  Z (cAt code 21) 21 [(5, (.pv (.int .i64 n_)))] σ (finQ (cx w0) Tryd.f23 n R)
def b21 : Prop :=
  pcodeX (cx w0) 25 lv n cuts Z (cAt code 21) 21 [(5, (.pv (.int .i64 n_)))] σ (finQ (cx w0) Tryd.f23 n R)
def b0 : Prop :=
  pcodeX (cx w0) 25 lv n cuts Z code 0 (argsE 0 [a, b]) σ (finQ (cx w0) Tryd.f23 n R)
end
variable {Z : XT} {w0 : Base} {n : Nat} {R : RT} {σ τ : Store} {n_ t11 t12 n_' t11' t12' : Int} {t10 a b t10' : AV}
theorem n8_in (h : b9 (X w0 n) w0 n R σ n_ t10 t11 t12) : n8 (X w0 n) w0 n R σ n_ t10 t11 t12 := xr_round (cxOK w0) (S := cuts) (by kernel_rfl : cAt code 8 = .loop (cAt code 9)) h
theorem n8_weak (e : EWeak (cx w0) n [(5, (.pv (.int .i64 n_))), (10, t10), (11, (.pv (.int .i64 t11))), (12, (.pv (.int .i64 t12)))] σ [(5, (.pv (.int .i64 n_'))), (10, t10'), (11, (.pv (.int .i64 t11'))), (12, (.pv (.int .i64 t12')))] τ) (h : n8 (X w0 n) w0 n R τ n_' t10' t11' t12') : n8 (X w0 n) w0 n R σ n_ t10 t11 t12 := xr_weak (L := lv) (k := 8) (by kernel_rfl : cAt code 8 = .loop (cAt code 9)) e h
theorem b9_eq : b9 Z w0 n R σ n_ t10 t11 t12 = (
  condB (decide ((t12 : Int) < t11)) (opt (aIndexAddr σ tabS ti79.td t10 t12) fun t14 => opt (aLoad σ ti82 t14) fun t15 => opt (aStore (σ ++ [.cells 82 (AV.ofValue ti82.zero).cells]) ti82 (.ptr (List.length σ) 0) t15) fun σ' => opt (aFieldAddr tabS ti82.td (.ptr (List.length σ) 0) 1) fun t17 => opt (aLoad σ' ti3 t17) fun t18 => isI .i64 t18 fun t18_1 => opt (aFieldAddr tabS ti82.td (.ptr (List.length σ) 0) 3) fun t19 => opt (aLoad σ' ti3 t19) fun t20 => isI .i64 t20 fun t20_1 => n8 Z w0 n R σ' (IntKind.wrap .i64 (n_ + (IntKind.wrap .i64 (t18_1 + t20_1)))) t10 t11 (IntKind.wrap .i64 (t12 + 1))) (n21 Z w0 n R σ n_)) := by kernel_rfl
theorem b21_eq : b21 Z w0 n R σ n_ = (
  FinK (cx w0) n (.pv (.int .i64 n_)) σ R) := by kernel_rfl
theorem n21_in (h : b21 (X w0 n) w0 n R σ n_) : n21 (X w0 n) w0 n R σ n_ := xr_in (S := cuts) (by kernel_rfl) h
theorem b0_eq : b0 Z w0 n R σ a b = (
  SCalls (cx w0) myers_Diff.id [a, b] σ fun r σ' => opt (aLen ti79.td r) fun t11 => isI .i64 t11 fun t11_1 => n8 Z w0 n R σ' 0 r t11_1 0) := by kernel_rfl
theorem calls (h : b0 (X w0 (List.length σ)) w0 (List.length σ) R σ a b) : SCalls (cx w0) myers_Distance.id [a, b] σ R :=
  xr_enter (cxOK w0) (x := fe) (S := cuts) (myers_Distance.ok w0) (by kernel_rfl) h
attribute [irreducible] n8 b9 n21 b21 b0
end myers_Distance
namespace myers_Common
def lvs : List (List Nat) := [[0, 1], [0, 1], [0, 1], [0, 1], [4]]
def lv : Nat → List Nat := lvOf lvs
noncomputable def code : Code := bodyOf Tryd.f13
noncomputable def fe : FE := ⟨Tryd.f13, code, lv⟩
def cuts : List Nat := []
abbrev X (w0 : Base) (n : Nat) : XT := xr (cx w0) 15 lv n
theorem ok (w0 : Base) : FOK (cx w0) myers_Common.id fe := ⟨Tryd.func13, by kernel_rfl, by kernel_rfl⟩
section
variable (Z : XT) (w0 : Base) (n : Nat) (R : RT) (σ : Store) (a b : AV)
def b0 : Prop :=
  pcodeX (cx w0) 15 lv n cuts Z code 0 (argsE 0 [a, b]) σ (finQ (cx w0) Tryd.f13 n R)
end
variable {Z : XT} {w0 : Base} {n : Nat} {R : RT} {σ τ : Store} {a b : AV}
theorem b0_eq : b0 Z w0 n R σ a b = (
  opt (aLen ti43.td a) fun t6 => isI .i64 t6 fun t6_1 => opt (aLen ti43.td b) fun t8 => isI .i64 t8 fun t8_1 => SCalls (cx w0) myers_Distance.id [a, b] σ fun r σ' => isI .i64 r fun t12 => ((2 : Int) ≠ 0 ∧ (FinK (cx w0) n (.pv (.int .i64 (IntKind.wrap .i64 (Int.tdiv (IntKind.wrap .i64 ((IntKind.wrap .i64 (t6_1 + t8_1)) - t12)) 2)))) σ' R))) := by kernel_rfl
theorem calls (h : b0 (X w0 (List.length σ)) w0 (List.length σ) R σ a b) : SCalls (cx w0) myers_Common.id [a, b] σ R :=
  xr_enter (cxOK w0) (x := fe) (S := cuts) (myers_Common.ok w0) (by kernel_rfl) h
attribute [irreducible] b0
end myers_Common
end Go.Sv
end
section
namespace Go.Sv
theorem nat_r (x d : Nat) : x + (d + 1) = x + 1 + d := by omega
theorem in_run {x d n : Nat} {G : List Bool} (h2 : d = 0 ∨ x + 1 + d ≤ n) (hlt : x < G.length) (hG : G.length = n) : x + (d + 1) ≤ n := by omega
theorem sum_succ (d B : Nat) : 1 + (d + B) = d + 1 + B := by omega
structure Ch where
  a : Int
  n : Int
  b : Int
  m : Int
abbrev chP (c : Ch) : PV := .agg [.int .i64 c.a, .int .i64 c.n, .int .i64 c.b, .int .i64 c.m]
def sumC : List Ch → Int
  | [] => 0
  | c :: l => (c.n + c.m) + sumC l
theorem sumC_app (l : List Ch) (c : Ch) : sumC (l ++ [c]) = sumC l + (c.n + c.m) := by
  induction l with
  | nil => simp [sumC]
  | cons d l ih => simp only [List.cons_append, sumC, ih]; omega
theorem drop_cons' {l : List Bool} {x : Nat} {v : Bool} (h : l[x]? = some v) : trueN (l.drop x) = (if v = true then 1 else 0) + trueN (l.drop (x + 1)) := by
  rw [drop_consx' h]
  unfold trueN
  rw [List.count_cons]
  cases v <;> simp <;> omega
where
  drop_consx' {l : List Bool} {x : Nat} {v : Bool} (h : l[x]? = some v) : l.drop x = v :: l.drop (x + 1) := by
    have hlt := (List.getElem?_eq_some_iff.1 h).1
    rw [List.drop_eq_getElem_cons hlt]
    rw [List.getElem?_eq_getElem hlt] at h
    cases h; rfl
theorem drop_run {l : List Bool} {x d : Nat} (hv : l[x]? = some true) (h1 : Hid (trueN (l.drop (x + 1)) = d + trueN (l.drop (x + 1 + d)))) : Hid (trueN (l.drop x) = d + 1 + trueN (l.drop (x + (d + 1)))) := by
  show trueN (l.drop x) = d + 1 + trueN (l.drop (x + (d + 1)))
  have h1' : trueN (l.drop (x + 1)) = d + trueN (l.drop (x + 1 + d)) := h1
  rw [drop_cons' hv, if_pos rfl, h1', show x + (d + 1) = x + 1 + d from nat_r x d]
  exact sum_succ _ _
theorem drop_zero' (l : List Bool) (x : Nat) : Hid (trueN (l.drop x) = 0 + trueN (l.drop (x + 0))) := (Nat.zero_add _).symm
theorem drop_past {l : List Bool} {x : Nat} (h : l.length ≤ x) : trueN (l.drop x) = 0 := by rw [List.drop_eq_nil_of_le h]; rfl
theorem drop_not {l : List Bool} {x : Nat} (h : l[x]? ≠ some true) : trueN (l.drop x) = trueN (l.drop (x + 1)) := by
  cases hv : l[x]? with
  | none =>
    have := List.getElem?_eq_none_iff.1 hv
    rw [drop_past this, drop_past (by omega)]
  | some v =>
    cases v with
    | true => exact absurd hv h
    | false => rw [drop_cons' hv]; simp
section
open Go Go.RowKit Go.Proofs
variable {w0 : Base} {σ : Store} {P : AV → Prop} {a b : List Int} {G C : List Bool}
abbrev dS (G C : List Bool) (l : List Ch) : Store := [.cells 107 [.pv (.sl (boP G)), .pv (.sl (boP C))], .arr 4 (l.map chP) false]
abbrev dS2 (G C : List Bool) (l : List Ch) (p q r s : Int) : Store := dS G C l ++ [.cells 82 [.pv (.int .i64 p), .pv (.int .i64 q), .pv (.int .i64 r), .pv (.int .i64 s)]]
abbrev lA (l : List Ch) : AV := .arr 1 l.length 0 l.length
abbrev d10 (w0 : Base) (P : AV → Prop) (a b : List Int) (G C : List Bool) (l : List Ch) (x y : Nat) : Prop := myers_Diff.n10 (myers_Diff.X w0 0) w0 0 (fun r _ => P r) (dS G C l) (intsA a) (intsA b) (.ptr 0 0) (lA l) x y
abbrev d22 (w0 : Base) (P : AV → Prop) (a b : List Int) (G C : List Bool) (l : List Ch) (p r : Int) (x y : Nat) : Prop := myers_Diff.n22 (myers_Diff.X w0 0) w0 0 (fun r _ => P r) (dS2 G C l p 0 r 0) (intsA a) (intsA b) (.ptr 0 0) (lA l) x y (.ptr 2 0)
abbrev d33 (w0 : Base) (P : AV → Prop) (a b : List Int) (G C : List Bool) (l : List Ch) (p r : Int) (x y : Nat) : Prop := myers_Diff.n33 (myers_Diff.X w0 0) w0 0 (fun r _ => P r) (dS2 G C l p 0 r 0) (intsA a) (intsA b) (.ptr 0 0) (lA l) x y (.ptr 2 0)
abbrev d42 (w0 : Base) (P : AV → Prop) (a b : List Int) (G C : List Bool) (l : List Ch) (p r : Int) (x y : Nat) : Prop := myers_Diff.n42 (myers_Diff.X w0 0) w0 0 (fun r _ => P r) (dS2 G C l p 0 r 0) (intsA a) (intsA b) (.ptr 0 0) (lA l) x y (.ptr 2 0)
theorem x_loop {l : List Ch} {p r : Int} {y : Nat} (hG : G.length = a.length) (ha : a.length ≤ 4194304) : ∀ (f x : Nat), a.length < x + f → (∀ d : Nat, Hid (trueN (G.drop x) = d + trueN (G.drop (x + d))) → (d = 0 ∨ x + d ≤ a.length) → G[x + d]? ≠ some true → d33 w0 P a b G C l p r (x + d) y) → d22 w0 P a b G C l p r x y
  | f, x, hf, done => by
    have h26 : ∀ q : Bool, (q = true ↔ G[x]? = some true) → myers_Diff.n26 (myers_Diff.X w0 0) w0 0 (fun r _ => P r) (dS2 G C l p 0 r 0) (intsA a) (intsA b) (.ptr 0 0) (lA l) x y (.ptr 2 0) q := by
      intro q hq
      refine myers_Diff.n26_in ?_
      rw [myers_Diff.b26_eq]
      refine condB_split (fun g => ?_) (fun g => ?_)
      · have hv := hq.1 g
        have hlt := (List.getElem?_eq_some_iff.1 hv).1
        cases f with
        | zero => omega
        | succ f =>
          rw [wrap_next (n := G.length) hlt (by omega)]
          refine x_loop hG ha f (x + 1) (by omega) fun d h1 h2 h3 => ?_
          have := done (d + 1) (drop_run hv h1) (.inr (in_run h2 hlt hG)) (by rw [nat_r x d]; exact h3)
          rwa [nat_r x d] at this
      · refine myers_Diff.n31_in ?_
        rw [myers_Diff.b31_eq]
        exact done 0 (drop_zero' _ _) (.inl rfl) (fun h => by rw [hq.2 h] at g; cases g)
    refine myers_Diff.n22_in ?_
    rw [myers_Diff.b23_eq]
    repeat ((with_reducible first | apply opt_in | apply wI | apply wT | apply wP | apply wS | apply wB); exact rfl)
    rw [List.length_map, condB_decide]
    refine ite_split (fun g => ?_) (fun g => ?_)
    · have hlt : x < G.length := by omega
      have hv : G[x]? = some G[x] := List.getElem?_eq_getElem hlt
      repeat ((with_reducible first | apply opt_in | apply wI | apply wT | apply wP | apply wS | apply wB); exact rfl)
      refine opt_in (idx_ro tab4 (show (boP G)[x]? = some (PV.bool G[x]) by rw [List.getElem?_map, hv]; rfl) rfl) ?_
      repeat ((with_reducible first | apply opt_in | apply wI | apply wT | apply wP | apply wS | apply wB); exact rfl)
      refine h26 _ ?_
      rw [hv, Option.some.injEq]
    · refine h26 false ⟨fun e => Bool.noConfusion e, fun e => ?_⟩
      have := (List.getElem?_eq_some_iff.1 e).1
      omega
theorem y_loop {l : List Ch} {p r : Int} {x : Nat} (hC : C.length = b.length) (hb : b.length ≤ 4194304) : ∀ (f y : Nat), b.length < y + f → (∀ d : Nat, Hid (trueN (C.drop y) = d + trueN (C.drop (y + d))) → (d = 0 ∨ y + d ≤ b.length) → C[y + d]? ≠ some true → d42 w0 P a b G C l p r x (y + d)) → d33 w0 P a b G C l p r x y
  | f, y, hf, done => by
    have h37 : ∀ q : Bool, (q = true ↔ C[y]? = some true) → myers_Diff.n37 (myers_Diff.X w0 0) w0 0 (fun r _ => P r) (dS2 G C l p 0 r 0) (intsA a) (intsA b) (.ptr 0 0) (lA l) x y (.ptr 2 0) q := by
      intro q hq
      refine myers_Diff.n37_in ?_
      rw [myers_Diff.b37_eq]
      refine condB_split (fun g => ?_) (fun g => ?_)
      · have hv := hq.1 g
        have hlt := (List.getElem?_eq_some_iff.1 hv).1
        cases f with
        | zero => omega
        | succ f =>
          rw [wrap_next (n := C.length) hlt (by omega)]
          refine y_loop hC hb f (y + 1) (by omega) fun d h1 h2 h3 => ?_
          have := done (d + 1) (drop_run hv h1) (.inr (in_run h2 hlt hC)) (by rw [nat_r y d]; exact h3)
          rwa [nat_r y d] at this
      · exact done 0 (drop_zero' _ _) (.inl rfl) (fun h => by rw [hq.2 h] at g; cases g)
    refine myers_Diff.n33_in ?_
    rw [myers_Diff.b34_eq]
    repeat ((with_reducible first | apply opt_in | apply wI | apply wT | apply wP | apply wS | apply wB); exact rfl)
    rw [List.length_map, condB_decide]
    refine ite_split (fun g => ?_) (fun g => ?_)
    · have hlt : y < C.length := by omega
      have hv : C[y]? = some C[y] := List.getElem?_eq_getElem hlt
      repeat ((with_reducible first | apply opt_in | apply wI | apply wT | apply wP | apply wS | apply wB); exact rfl)
      refine opt_in (idx_ro tab4 (show (boP C)[y]? = some (PV.bool C[y]) by rw [List.getElem?_map, hv]; rfl) rfl) ?_
      repeat ((with_reducible first | apply opt_in | apply wI | apply wT | apply wP | apply wS | apply wB); exact rfl)
      refine h37 _ ?_
      rw [hv, Option.some.injEq]
    · refine h37 false ⟨fun e => Bool.noConfusion e, fun e => ?_⟩
      have := (List.getElem?_eq_some_iff.1 e).1
      omega
end
end Go.Sv
end
section
namespace Go.Sv
theorem sum_step {S : Int} {A A' B B' T d e : Nat} (h : S + (A : Int) + (B : Int) = (T : Int)) (h1 : A = d + A') (h2 : B = e + B') : S + ((d : Int) + (e : Int)) + (A' : Int) + (B' : Int) = (T : Int) := by omega
theorem sum_same {S : Int} {A A' B B' T : Nat} (h : S + (A : Int) + (B : Int) = (T : Int)) (h1 : A = A') (h2 : B = B') : S + (A' : Int) + (B' : Int) = (T : Int) := by rw [← h1, ← h2]; exact h
theorem sum_end {S : Int} {A B T : Nat} (h : S + (A : Int) + (B : Int) = (T : Int)) (h1 : A = 0) (h2 : B = 0) : S = (T : Int) := by omega
section
open Go Go.RowKit Go.Proofs
variable {w0 : Base} {σ : Store} {P : AV → Prop} {a b : List Int} {G C : List Bool}
theorem ch_seal {G C : List Bool} (l : List Ch) : sealR 0 ([] ++ dS G C l) (lA l) = some (.pv (.sl (l.map chP))) := by
  show (if (l.map chP).length = l.length ∧ 0 + l.length ≤ l.length then some (AV.pv (.sl (((l.map chP).drop 0).take l.length))) else none) = _
  rw [if_pos ⟨List.length_map _, by omega⟩]
  simp [List.take_of_length_le]
theorem diff_end {l : List Ch} (hP : P (.pv (.sl (l.map chP)))) : myers_Diff.n55 (myers_Diff.X w0 0) w0 0 (fun r _ => P r) (dS G C l) (lA l) := by
  refine myers_Diff.n55_in ?_
  rw [myers_Diff.b55_eq]
  exact fin_seal (σ := []) (L := dS G C l) glob0 rfl (ch_seal l) hP
theorem diff_step {l : List Ch} {x y d e : Nat} (hx : x + d ≤ 16777216) (hy : y + e ≤ 16777216) (hl : l.length ≤ 16777216)
    (more : 0 < d + e → d10 w0 P a b G C (l ++ [⟨x, d, y, e⟩]) (x + d) (y + e)) (next : d = 0 → e = 0 → d10 w0 P a b G C l (x + 1) (y + 1)) : d42 w0 P a b G C l x y (x + d) (y + e) := by
  refine myers_Diff.n42_in ?_
  rw [myers_Diff.b42_eq]
  have w1 : IntKind.wrap .i64 (((x + d : Nat) : Int) - (x : Int)) = (d : Int) := by rw [wrap_i64 (by omega) (by omega)]; omega
  have w2 : IntKind.wrap .i64 (((y + e : Nat) : Int) - (y : Int)) = (e : Int) := by rw [wrap_i64 (by omega) (by omega)]; omega
  have w3 : IntKind.wrap .i64 ((d : Int) + (e : Int)) = ((d + e : Nat) : Int) := by rw [wrap_i64 (by omega) (by omega)]; omega
  repeat ((with_reducible first | apply opt_in | apply wI | apply wT | apply wP | apply wS | apply wB); exact rfl)
  rw [w1]
  repeat ((with_reducible first | apply opt_in | apply wI | apply wT | apply wP | apply wS | apply wB); exact rfl)
  rw [w2]
  repeat ((with_reducible first | apply opt_in | apply wI | apply wT | apply wP | apply wS | apply wB); exact rfl)
  rw [w3, condB_decide]
  refine ite_split (fun g => ?_) (fun g => ?_)
  · have nx := more (by omega)
    repeat ((with_reducible first | apply opt_in | apply wI | apply wT | apply wP | apply wS | apply wB); exact rfl)
    refine opt2_in (v := .pv (.sl [chP ⟨x, d, y, e⟩])) rfl ?_
    refine opt2_in (append_pv (id := 1) (es := 4) (ver := l.length) (xs := l.map chP) (ys := [chP ⟨x, d, y, e⟩]) rfl rfl (List.length_map _).symm rfl rfl ⟨by rw [List.length_map]; show l.length + 1 ≤ _; omega, by rw [List.length_map]; show (l.length + 1) * 32 ≤ _; omega⟩) ?_
    rw [List.length_map]
    have e1 : l.map chP ++ [chP ⟨x, d, y, e⟩] = (l ++ [(⟨x, d, y, e⟩ : Ch)]).map chP := by simp
    rw [e1]
    have e2 : (l ++ [(⟨x, d, y, e⟩ : Ch)]).length = l.length + 1 := by simp
    unfold d10 lA at nx
    rw [e2] at nx
    exact myers_Diff.n10_weak (EWeak.drop (τ := dS G C (l ++ [⟨x, d, y, e⟩])) glob0 (Nat.zero_le _) rfl rfl) nx
  · have nx := next (by omega) (by omega)
    have hd : d = 0 := by omega
    have he : e = 0 := by omega
    subst hd; subst he
    rw [Nat.add_zero, Nat.add_zero, wrap_next (n := 16777217) (by omega) (by omega), wrap_next (n := 16777217) (by omega) (by omega)]
    exact myers_Diff.n10_weak (EWeak.drop (τ := dS G C l) glob0 (Nat.zero_le _) rfl rfl) nx
theorem diff_loop (ha : a.length ≤ 4194304) (hb : b.length ≤ 4194304) (hG : G.length = a.length) (hC : C.length = b.length) {T : Nat} (hP : ∀ l : List Ch, sumC l = (T : Int) → l.length ≤ 8388608 → P (.pv (.sl (l.map chP)))) :
    ∀ (f : Nat) (l : List Ch) (x y : Nat), (a.length - x) + (b.length - y) < f → x + (b.length - y) ≤ a.length + b.length → y + (a.length - x) ≤ a.length + b.length → l.length + ((a.length - x) + (b.length - y)) ≤ 8388608 → sumC l + (trueN (G.drop x) : Int) + (trueN (C.drop y) : Int) = (T : Int) → d10 w0 P a b G C l x y
  | 0, _, _, _, hf, _, _, _, _ => absurd hf (Nat.not_lt_zero _)
  | f + 1, l, x, y, hf, bx, by', hl, hs => by
    have hs' : Hid (sumC l + (trueN (G.drop x) : Int) + (trueN (C.drop y) : Int) = (T : Int)) := hs
    clear hs
    have h14 : ∀ q : Bool, (q = true ↔ (x < a.length ∨ y < b.length)) → myers_Diff.n14 (myers_Diff.X w0 0) w0 0 (fun r _ => P r) (dS G C l) (intsA a) (intsA b) (.ptr 0 0) (lA l) x y q := by
      intro q hq
      refine myers_Diff.n14_in ?_
      rw [myers_Diff.b14_eq]
      refine condB_split (fun g => ?_) (fun g => ?_)
      · have hor := hq.1 g
        repeat ((with_reducible first | apply opt_in | apply wI | apply wT | apply wP | apply wS | apply wB); exact rfl)
        refine x_loop (l := l) (p := x) (r := y) (y := y) hG ha (a.length + 1) x (by omega) fun d h1 h2 h3 => ?_
        refine y_loop (l := l) (p := x) (r := y) hC hb (b.length + 1) y (by omega) fun e g1 g2 g3 => ?_
        refine diff_step (by omega) (by omega) (by omega) (fun hp => ?_) (fun hd he => ?_)
        · refine diff_loop ha hb hG hC hP f _ (x + d) (y + e) (by omega) (by omega) (by omega) (by rw [List.length_append, List.length_singleton]; omega) ?_
          rw [sumC_app]
          exact sum_step hs' h1 g1
        · subst hd; subst he
          refine diff_loop ha hb hG hC hP f l (x + 1) (y + 1) (by omega) (by omega) (by omega) (by omega) ?_
          exact sum_same hs' (drop_not h3) (drop_not g3)
      · have hn : ¬ (x < a.length ∨ y < b.length) := fun h => by rw [hq.2 h] at g; cases g
        exact diff_end (hP l (sum_end hs' (drop_past (by omega)) (drop_past (by omega))) (by omega))
    refine myers_Diff.n10_in ?_
    rw [myers_Diff.b11_eq]
    repeat ((with_reducible first | apply opt_in | apply wI | apply wT | apply wP | apply wS | apply wB); exact rfl)
    rw [List.length_map, condB_decide]
    refine ite_split (fun g => ?_) (fun g => ?_)
    · exact h14 true ⟨fun _ => .inl (by omega), fun _ => rfl⟩
    · repeat ((with_reducible first | apply opt_in | apply wI | apply wT | apply wP | apply wS | apply wB); exact rfl)
      rw [List.length_map]
      refine h14 _ ?_
      rw [decide_eq_true_iff]
      omega
def DiffIs (n : Nat) (r : AV) : Prop := ∃ l : List Ch, sumC l = (n : Int) ∧ l.length ≤ 8388608 ∧ r = .pv (.sl (l.map chP))
theorem Diff_spec {R : AV → Store → Prop} (L : Laid w0.w) (ha : a.length ≤ 4194304) (hb : b.length ≤ 4194304) (hR : ∀ l : List Ch, sumC l = (cntL a b : Int) → l.length ≤ 8388608 → R (.pv (.sl (l.map chP))) σ) : SCalls (cx w0) myers_Diff.id [intsA a, intsA b] σ R := by
  refine SCalls.some_of (P := DiffIs (cntL a b)) L rfl (fun w1 L1 => ?_) (fun r ⟨l, _, _, e⟩ => by rw [e]; rfl) (fun r ⟨l, h1, h2, e⟩ => by rw [e]; exact hR l h1 h2)
  refine myers_Diff.calls ?_
  rw [myers_Diff.b0_eq]
  refine mark_spec L1 ha hb fun G C hG hC hs => ?_
  repeat ((with_reducible first | apply opt_in | apply wI | apply wT | apply wP | apply wS | apply wB); exact rfl)
  refine myers_Diff.n10_weak (a' := intsA a) (b' := intsA b) (m' := .ptr 0 0) (out' := lA []) (x' := (0 : Nat)) (y' := (0 : Nat)) (τ := dS G C []) (EWeak.nil (t := 6) (es := 4) rfl rfl) ?_
  refine diff_loop (T := cntL a b) ha hb hG hC (fun l h1 h2 => ⟨l, h1, h2, rfl⟩) _ [] 0 0 (Nat.lt_succ_self _) (by omega) (by omega) (by simp only [List.length_nil]; omega) ?_
  rw [List.drop_zero, List.drop_zero, ← hs]
  show (0 : Int) + _ + _ = _
  rw [Int.zero_add, Int.natCast_add]
end
end Go.Sv
end
section
namespace Go.Sv
open Go
theorem wrap_add (x y : Int) : IntKind.wrap .i64 (IntKind.wrap .i64 x + IntKind.wrap .i64 y) = IntKind.wrap .i64 (x + y) := by
  unfold IntKind.wrap
  have e1 : (2 : Int) ^ IntKind.i64.bits = 18446744073709551616 := by decide
  have e2 : (2 : Int) ^ (IntKind.i64.bits - 1) = 9223372036854775808 := by decide
  simp only [e1, e2, IntKind.signed, Bool.true_and, decide_eq_true_eq]
  split <;> split <;> split <;> split <;> omega
def lcsL (a b : List Int) : Nat := lcsF (eqL a b) a.length b.length
theorem lcs_cnt (a b : List Int) : 2 * lcsL a b + cntL a b = a.length + b.length := lcs_way _ _
theorem half_of {n m l c : Nat} (h : 2 * l + c = n + m) (hn : n ≤ 4194304) (hm : m ≤ 4194304) : IntKind.wrap .i64 (Int.tdiv (IntKind.wrap .i64 (IntKind.wrap .i64 ((n : Int) + (m : Int)) - (c : Int))) 2) = (l : Int) := by
  rw [wrap_i64 (n := (n : Int) + m) (by omega) (by omega), wrap_i64 (n := (n : Int) + m - c) (by omega) (by omega), Int.tdiv_eq_ediv_of_nonneg (by omega), wrap_i64 (by omega) (by omega)]
  omega
section
open Go Go.RowKit Go.Proofs
variable {w0 : Base} {σ : Store} {P : AV → Prop} {a b : List Int} {G C : List Bool}
theorem sumC_drop {l : List Ch} {k : Nat} {c : Ch} (h : l[k]? = some c) : sumC (l.take (k + 1)) = sumC (l.take k) + (c.n + c.m) := by
  rw [List.take_add_one, h]
  exact sumC_app _ _
theorem ch_get {l : List Ch} {k : Nat} {c : Ch} (h : l[k]? = some c) : (l.map chP)[k]? = some (chP c) := by rw [List.getElem?_map, h]; rfl
theorem dist_loop {l : List Ch} {T : Nat} (hs : sumC l = (T : Int)) (hT : T ≤ 16777216) (hl : l.length ≤ 8388608) (hP : P (.pv (.int .i64 (T : Int)))) : ∀ (f k : Nat), k + f = l.length → myers_Distance.n8 (myers_Distance.X w0 0) w0 0 (fun r _ => P r) [] (IntKind.wrap .i64 (sumC (l.take k))) (.pv (.sl (l.map chP))) (l.length : Nat) (k : Nat)
  | 0, k, hk => by
    refine myers_Distance.n8_in ?_
    rw [myers_Distance.b9_eq, condB_decide, if_neg (by omega)]
    refine myers_Distance.n21_in ?_
    rw [myers_Distance.b21_eq, List.take_of_length_le (by omega), hs, wrap_i64 (by omega) (by omega)]
    exact fin_keep (Nat.zero_le _) hP
  | f + 1, k, hk => by
    have hlt : k < l.length := by omega
    have hg : l[k]? = some l[k] := List.getElem?_eq_getElem hlt
    refine myers_Distance.n8_in ?_
    rw [myers_Distance.b9_eq, condB_decide, if_pos (by omega)]
    refine opt_in (idx_ro tab82 (ch_get hg) rfl) ?_
    repeat ((with_reducible first | apply opt_in | apply wI | apply wT | apply wP | apply wS | apply wB); exact rfl)
    rw [wrap_add, wrap_next (n := l.length) hlt (by omega), ← sumC_drop hg]
    refine myers_Distance.n8_weak (EWeak.drop (τ := []) glob0 (Nat.zero_le _) rfl rfl) ?_
    exact dist_loop hs hT hl hP f (k + 1) (by omega)
theorem cnt_le (a b : List Int) : cntL a b ≤ a.length + b.length := (cnt_facts a b).1
theorem Distance_spec {R : AV → Store → Prop} (L : Laid w0.w) (ha : a.length ≤ 4194304) (hb : b.length ≤ 4194304) (hR : R (.pv (.int .i64 (cntL a b : Int))) σ) : SCalls (cx w0) myers_Distance.id [intsA a, intsA b] σ R := by
  refine SCalls.alone L rfl (fun w1 L1 => ?_) rfl hR
  refine myers_Distance.calls ?_
  rw [myers_Distance.b0_eq]
  refine Diff_spec L1 ha hb fun l h1 h2 => ?_
  repeat ((with_reducible first | apply opt_in | apply wI | apply wT | apply wP | apply wS | apply wB); exact rfl)
  rw [List.length_map]
  have := cnt_le a b
  exact dist_loop (P := fun r' => r' = .pv (.int .i64 (cntL a b : Int))) h1 (by omega) h2 rfl l.length 0 (Nat.zero_add _)
theorem Common_spec {R : AV → Store → Prop} (L : Laid w0.w) (ha : a.length ≤ 4194304) (hb : b.length ≤ 4194304) (hR : R (.pv (.int .i64 (lcsL a b : Int))) σ) : SCalls (cx w0) myers_Common.id [intsA a, intsA b] σ R := by
  refine SCalls.alone L rfl (fun w1 L1 => ?_) rfl hR
  refine myers_Common.calls ?_
  rw [myers_Common.b0_eq]
  repeat ((with_reducible first | apply opt_in | apply wI | apply wT | apply wP | apply wS | apply wB); exact rfl)
  refine Distance_spec L1 ha hb ?_
  repeat ((with_reducible first | apply opt_in | apply wI | apply wT | apply wP | apply wS | apply wB); exact rfl)
  rw [List.length_map, List.length_map, half_of (lcs_cnt a b) ha hb]
  exact ⟨by decide, fin_keep (Nat.zero_le _) rfl⟩
end
end Go.Sv
end
