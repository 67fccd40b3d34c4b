/- What the code of Go functions comes to over abstract stores, piece by piece; each equation by the kernel. Printed by a program of this session. -/
import Derived.Test.YtgdnoobpnhmpjaaGreatDoorSvT
import Derived.KernelRfl
set_option linter.unusedVariables false
set_option maxRecDepth 100000
namespace Go.Sv
open Go Go.Proofs
namespace selvagelaw28_twins
def lvs : List (List Nat) := [[0], [0], [0], [0], [0, 3], [0, 3], [0, 3], [0, 3, 4], [0, 3, 4], [0, 3, 4], [0, 3, 4], [0, 3, 4], [0, 3, 4, 13], [0, 3, 4], [3], [0, 3, 4], [0, 3, 4], [0, 3, 4], [0, 3, 4], [0, 3, 4, 5], [0, 3, 4, 5], [0, 3, 4, 5, 6], [0, 3, 4, 5, 6], [0, 3, 4, 5, 6], [0, 3, 4, 5, 6, 7], [0, 3, 4, 5, 6, 7], [0, 3, 4, 5, 6, 7], [0, 3, 4, 5, 6, 7], [0, 3, 4, 5, 6, 7], [0, 3, 4, 5, 6, 7, 24], [0, 3, 4, 5, 6, 7], [0, 3, 4, 5, 6], [0, 3, 4, 5, 6, 7], [0, 3, 4, 5, 6, 7], [0, 3, 4, 5, 6, 7], [0, 3, 4, 5, 6, 7], [0, 3, 4, 5, 6, 7, 8], [0, 3, 4, 5, 6, 7, 8], [0, 3, 4, 5, 6, 7, 8, 9], [0, 3, 4, 5, 6, 7, 8, 9], [0, 3, 4, 5, 6, 7, 8], [0, 3, 4, 5, 6, 7], [0, 3, 4, 5, 6], [0, 3, 4, 5, 6], [0, 3, 4, 5], [0, 3, 4], [3], [3], [2]]
def lv : Nat → List Nat := lvOf lvs
noncomputable def code : Code := bodyOf Tryz.f11
noncomputable def fe : FE := ⟨Tryz.f11, code, lv⟩
def cuts : List Nat := [9, 26, 42, 45, 46]
abbrev X (w0 : Base) (n : Nat) : XT := xr (cx w0) 48 lv n
theorem ok (w0 : Base) : FOK (cx w0) selvagelaw28_twins.id fe := ⟨Tryz.func11, by kernel_rfl, by kernel_rfl⟩
section
variable (Z : XT) (w0 : Base) (n : Nat) (R : RT) (σ : Store) (l_ out : AV) (i : Int) (s h_ : AV) (k : Int)
def q5 : QT := thenQ (fun env σ => Z (cAt code 46) 46 (prune (lv 46) env) σ (finQ (cx w0) Tryz.f11 n R)) (finQ (cx w0) Tryz.f11 n R)
def q8 : QT := blockQ 0 (q5 Z w0 n R)
def q9 : QT := thenQ (fun env σ => Z (cAt code 8) 8 (prune (lv 8) env) σ (q8 Z w0 n R)) (q8 Z w0 n R)
def q16 : QT := thenQ (fun env σ => Z (cAt code 45) 45 (prune (lv 45) env) σ (q9 Z w0 n R)) (q9 Z w0 n R)
def q17 : QT := blockQ 1 (q16 Z w0 n R)
def q22 : QT := thenQ (fun env σ => Z (cAt code 42) 42 (prune (lv 42) env) σ (q17 Z w0 n R)) (q17 Z w0 n R)
def q25 : QT := blockQ 2 (q22 Z w0 n R)
def q26 : QT := thenQ (fun env σ => Z (cAt code 25) 25 (prune (lv 25) env) σ (q25 Z w0 n R)) (q25 Z w0 n R)
def n8 : Prop :=
  Z (cAt code 8) 8 [(0, l_), (3, out), (4, (.pv (.int .i64 i)))] σ (q8 Z w0 n R)
def b9 : Prop :=
  pcodeX (cx w0) 48 lv n cuts Z (cAt code 9) 9 [(0, l_), (3, out), (4, (.pv (.int .i64 i)))] σ (q9 Z w0 n R)
def n25 : Prop :=
  Z (cAt code 25) 25 [(0, l_), (3, out), (4, (.pv (.int .i64 i))), (5, s), (6, h_), (7, (.pv (.int .i64 k)))] σ (q25 Z w0 n R)
def b26 : Prop :=
  pcodeX (cx w0) 48 lv n cuts Z (cAt code 26) 26 [(0, l_), (3, out), (4, (.pv (.int .i64 i))), (5, s), (6, h_), (7, (.pv (.int .i64 k)))] σ (q26 Z w0 n R)
def n42 : Prop :=
  Z (cAt code 42) 42 [(0, l_), (3, out), (4, (.pv (.int .i64 i))), (5, s), (6, h_)] σ (q17 Z w0 n R)
def b42 : Prop :=
  pcodeX (cx w0) 48 lv n cuts Z (cAt code 42) 42 [(0, l_), (3, out), (4, (.pv (.int .i64 i))), (5, s), (6, h_)] σ (q17 Z w0 n R)
def n45 : Prop :=
  Z (cAt code 45) 45 [(0, l_), (3, out), (4, (.pv (.int .i64 i)))] σ (q9 Z w0 n R)
def b45 : Prop :=
  pcodeX (cx w0) 48 lv n cuts Z (cAt code 45) 45 [(0, l_), (3, out), (4, (.pv (.int .i64 i)))] σ (q9 Z w0 n R)
def n46 : Prop :=
  Z (cAt code 46) 46 [(3, out)] σ (finQ (cx w0) Tryz.f11 n R)
def b46 : Prop :=
  pcodeX (cx w0) 48 lv n cuts Z (cAt code 46) 46 [(3, out)] σ (finQ (cx w0) Tryz.f11 n R)
def b0 : Prop :=
  pcodeX (cx w0) 48 lv n cuts Z code 0 (argsE 0 [l_]) σ (finQ (cx w0) Tryz.f11 n R)
end
variable {Z : XT} {w0 : Base} {n : Nat} {R : RT} {σ τ : Store} {l_ out s h_ l_' out' s' h_' : AV} {i k i' k' : Int}
theorem n8_in (h : b9 (X w0 n) w0 n R σ l_ out i) : n8 (X w0 n) w0 n R σ l_ out i := xr_round (cxOK w0) (S := cuts) (by kernel_rfl : cAt code 8 = .loop (cAt code 9)) @h
theorem n8_weak (e : EWeak (cx w0) n [(0, l_), (3, out), (4, (.pv (.int .i64 i)))] σ [(0, l_'), (3, out'), (4, (.pv (.int .i64 i')))] τ) (h : n8 (X w0 n) w0 n R τ l_' out' i') : n8 (X w0 n) w0 n R σ l_ out i := xr_weak (L := lv) (k := 8) (by kernel_rfl : cAt code 8 = .loop (cAt code 9)) @e @h
theorem b9_eq : b9 Z w0 n R σ l_ out i = (
  opt (aLen ti22.td l_) fun t12 => isI .i64 t12 fun t12_1 => condB (decide ((i : Int) < t12_1)) (opt (aIndexAddr σ tabS ti22.td l_ i) fun t18 => opt (aLoad σ ti31 t18) fun t19 => opt (aStore (σ ++ [.cells 31 (AV.ofValue ti31.zero).cells]) ti31 (.ptr (List.length σ) 0) t19) fun σ' => n25 Z w0 n R σ' l_ out i (.ptr (List.length σ) 0) .nilsl 0) (n46 Z w0 n R σ out)) := by kernel_rfl
theorem n25_in (h : b26 (X w0 n) w0 n R σ l_ out i s h_ k) : n25 (X w0 n) w0 n R σ l_ out i s h_ k := xr_round (cxOK w0) (S := cuts) (by kernel_rfl : cAt code 25 = .loop (cAt code 26)) @h
theorem n25_weak (e : EWeak (cx w0) n [(0, l_), (3, out), (4, (.pv (.int .i64 i))), (5, s), (6, h_), (7, (.pv (.int .i64 k)))] σ [(0, l_'), (3, out'), (4, (.pv (.int .i64 i'))), (5, s'), (6, h_'), (7, (.pv (.int .i64 k')))] τ) (h : n25 (X w0 n) w0 n R τ l_' out' i' s' h_' k') : n25 (X w0 n) w0 n R σ l_ out i s h_ k := xr_weak (L := lv) (k := 25) (by kernel_rfl : cAt code 25 = .loop (cAt code 26)) @e @h
theorem b26_eq : b26 Z w0 n R σ l_ out i s h_ k = (
  opt (aFieldAddr tabS ti31.td s 4) fun t21 => opt (aLoad σ ti29 t21) fun t22 => opt (aLen ti29.td t22) fun t23 => isI .i64 t23 fun t23_1 => condB (decide ((k : Int) < t23_1)) (opt (aFieldAddr tabS ti31.td s 4) fun t27 => opt (aLoad σ ti29 t27) fun t28 => opt (aIndexAddr σ tabS ti29.td t28 k) fun t30 => opt (aLoad σ ti46 t30) fun t31 => opt (aStore (σ ++ [.cells 46 (AV.ofValue ti46.zero).cells]) ti46 (.ptr (List.length σ) 0) t31) fun σ' => opt (aFieldAddr tabS ti46.td (.ptr (List.length σ) 0) 5) fun t33 => opt (aLoad σ' ti43 t33) fun t34 => opt2 (aAppendB true σ' ti79 .nilsl t34) fun t35 σ'_1 => opt (aFieldAddr tabS ti46.td (.ptr (List.length σ) 0) 5) fun t36 => opt (aStore σ'_1 ti43 t36 t35) fun σ'_2 => opt (aLoad σ'_2 ti46 (.ptr (List.length σ) 0)) fun t38 => opt2 (aBuildSlice σ'_2 ti46 false 1 [(0, t38)]) fun t39 σ'_3 => opt2 (aAppend σ'_3 ti46 h_ t39) fun t40 σ'_4 => n25 Z w0 n R σ'_4 l_ out i s t40 (IntKind.wrap .i64 (k + 1))) (n42 Z w0 n R σ l_ out i s h_)) := by kernel_rfl
theorem b42_eq : b42 Z w0 n R σ l_ out i s h_ = (
  opt (aFieldAddr tabS ti31.td s 4) fun t42 => opt (aStore σ ti29 t42 h_) fun σ' => opt (aLoad σ' ti31 s) fun t44 => opt2 (aBuildSlice σ' ti31 false 1 [(0, t44)]) fun t45 σ'_1 => opt2 (aAppend σ'_1 ti31 out t45) fun t46 σ'_2 => n45 Z w0 n R σ'_2 l_ t46 i) := by kernel_rfl
theorem n42_in (h : b42 (X w0 n) w0 n R σ l_ out i s h_) : n42 (X w0 n) w0 n R σ l_ out i s h_ := xr_in (S := cuts) (by kernel_rfl) @h
theorem b45_eq : b45 Z w0 n R σ l_ out i = (
  n8 Z w0 n R σ l_ out (IntKind.wrap .i64 (i + 1))) := by kernel_rfl
theorem n45_in (h : b45 (X w0 n) w0 n R σ l_ out i) : n45 (X w0 n) w0 n R σ l_ out i := xr_in (S := cuts) (by kernel_rfl) @h
theorem b46_eq : b46 Z w0 n R σ out = (
  FinK (cx w0) n out σ R) := by kernel_rfl
theorem n46_in (h : b46 (X w0 n) w0 n R σ out) : n46 (X w0 n) w0 n R σ out := xr_in (S := cuts) (by kernel_rfl) @h
theorem b0_eq : b0 Z w0 n R σ l_ = (
  n8 Z w0 n R σ l_ .nilsl 0) := by kernel_rfl
theorem calls (h : b0 (X w0 (List.length σ)) w0 (List.length σ) R σ l_) : SCalls (cx w0) selvagelaw28_twins.id [l_] σ R :=
  xr_enter (cxOK w0) (x := fe) (S := cuts) (selvagelaw28_twins.ok w0) (by kernel_rfl) @h
attribute [irreducible] n8 b9 n25 b26 n42 b42 n45 b45 n46 b46 b0
end selvagelaw28_twins
namespace selvagelaw28_num
def lvs : List (List Nat) := [[0], [0], [0], [0], [0], [0, 5], [], [], [2], [0], [0], [0], [0, 3], [0, 3], [0, 3], [3, 9], [], [], [2], [3], [3], [3], [2]]
def lv : Nat → List Nat := lvOf lvs
noncomputable def code : Code := bodyOf Tryz.f9
noncomputable def fe : FE := ⟨Tryz.f9, code, lv⟩
def cuts : List Nat := []
abbrev X (w0 : Base) (n : Nat) : XT := xr (cx w0) 11 lv n
theorem ok (w0 : Base) : FOK (cx w0) selvagelaw28_num.id fe := ⟨Tryz.func9, by kernel_rfl, by kernel_rfl⟩
section
variable (Z : XT) (w0 : Base) (n : Nat) (R : RT) (σ : Store) (e_ : AV)
def b0 : Prop :=
  pcodeX (cx w0) 11 lv n cuts Z code 0 (argsE 0 [e_]) σ (finQ (cx w0) Tryz.f9 n R)
end
variable {Z : XT} {w0 : Base} {n : Nat} {R : RT} {σ τ : Store} {e_ : AV}
theorem b0_eq : b0 Z w0 n R σ e_ = (
  aBinK tabS 24 true .eql e_ (.pv (.raw .nilIface)) fun v => isB v fun b => condB b (FinK (cx w0) n (.pv (.int .i64 0)) σ R) (opt (aMakeInterface 75 (.ptr (List.length σ) 0)) fun t7 => SCalls (cx w0) errors_As.id [e_, t7] (σ ++ [.cells 61 (AV.ofValue ti61.zero).cells]) fun r σ' => isB r fun t8 => condB (!t8) (FinK (cx w0) n (.pv (.int .i64 (-1))) σ' R) (opt (aLoad σ' ti61 (.ptr (List.length σ) 0)) fun t10 => isI .i64 t10 fun t10_1 => FinK (cx w0) n (.pv (.int .i64 t10_1)) σ' R))) := by kernel_rfl
theorem calls (h : b0 (X w0 (List.length σ)) w0 (List.length σ) R σ e_) : SCalls (cx w0) selvagelaw28_num.id [e_] σ R :=
  xr_enter (cxOK w0) (x := fe) (S := cuts) (selvagelaw28_num.ok w0) (by kernel_rfl) @h
attribute [irreducible] b0
end selvagelaw28_num
namespace selvagelaw28_StreamTotals
def lvs : List (List Nat) := [[0], [0], [0], [0], [0, 3, 4], [0, 3, 4], [0, 3, 4, 5, 6], [0, 3, 4, 5, 6], [0, 3, 4, 5, 6], [0, 3, 4, 5, 34], [], [], [2], [0, 3, 4, 5], [0, 3, 4, 5], [0, 3, 4, 5], [0, 3, 4, 5], [0, 3, 4, 5, 7], [0, 3, 4, 5, 7], [0, 3, 4, 5, 7], [0, 3, 4, 5, 7], [0, 3, 4, 5, 7], [0, 3, 4, 5, 7, 38], [0, 3, 4, 5, 7], [0, 3, 4], [0, 3, 4, 5, 7], [0, 3, 4, 5, 7], [0, 3, 4, 5, 7], [0, 3, 4, 5, 7], [0, 3, 4, 5, 7, 49], [], [], [2], [0, 3, 4, 5, 7], [0, 3, 4, 5, 7], [0, 3, 4], [0, 3, 4], [3, 4, 8, 9], [3, 4, 8, 9], [3, 4, 9, 10, 11], [3, 4, 9, 10, 11], [3, 4, 9, 10, 11], [3, 10, 70], [], [], [2], [3, 10], [3, 10], [3, 10], [3, 10], [3, 10, 12], [3, 10, 12], [3, 10, 12], [3, 10, 12], [3, 10, 12], [3, 10, 12, 75], [3, 10, 12], [3, 10], [3, 10, 12], [3, 10, 12], [3, 10, 12], [3, 10, 12], [3, 10, 12, 108], [], [], [2], [3, 10, 12], [3, 10, 12], [3, 10], [3, 10], [2]]
def lv : Nat → List Nat := lvOf lvs
noncomputable def code : Code := bodyOf Tryz.f5
noncomputable def fe : FE := ⟨Tryz.f5, code, lv⟩
def cuts : List Nat := [9, 19, 35, 42, 52, 62, 68, 70]
abbrev X (w0 : Base) (n : Nat) : XT := xr (cx w0) 117 lv n
theorem ok (w0 : Base) : FOK (cx w0) selvagelaw28_StreamTotals.id fe := ⟨Tryz.func5, by kernel_rfl, by kernel_rfl⟩
section
variable (Z : XT) (w0 : Base) (n : Nat) (R : RT) (σ : Store) (l_ a e_ b : AV) (t34 : Bool) (c : AV) (i : Int) (t70 t108 t2 : Bool)
def q7 : QT := thenQ (fun env σ => pcodeX (cx w0) 117 lv n cuts Z (cAt code 14) 14 (prune (lv 14) env) σ (finQ (cx w0) Tryz.f5 n R)) (finQ (cx w0) Tryz.f5 n R)
def q15 : QT := thenQ (fun env σ => Z (cAt code 35) 35 (prune (lv 35) env) σ (finQ (cx w0) Tryz.f5 n R)) (finQ (cx w0) Tryz.f5 n R)
def q18 : QT := blockQ 0 (q15 Z w0 n R)
def q19 : QT := thenQ (fun env σ => Z (cAt code 18) 18 (prune (lv 18) env) σ (q18 Z w0 n R)) (q18 Z w0 n R)
def q40 : QT := thenQ (fun env σ => pcodeX (cx w0) 117 lv n cuts Z (cAt code 47) 47 (prune (lv 47) env) σ (finQ (cx w0) Tryz.f5 n R)) (finQ (cx w0) Tryz.f5 n R)
def q48 : QT := thenQ (fun env σ => Z (cAt code 68) 68 (prune (lv 68) env) σ (finQ (cx w0) Tryz.f5 n R)) (finQ (cx w0) Tryz.f5 n R)
def q51 : QT := blockQ 2 (q48 Z w0 n R)
def q52 : QT := thenQ (fun env σ => Z (cAt code 51) 51 (prune (lv 51) env) σ (q51 Z w0 n R)) (q51 Z w0 n R)
def q59 : QT := thenQ (fun env σ => pcodeX (cx w0) 117 lv n cuts Z (cAt code 67) 67 (prune (lv 67) env) σ (q52 Z w0 n R)) (q52 Z w0 n R)
def q60 : QT := blockQ 3 (q59 Z w0 n R)
def n9 : Prop :=
  Z (cAt code 9) 9 [(0, l_), (3, a), (4, e_), (5, b), (34, (.pv (.bool t34)))] σ (q7 Z w0 n R)
def b9 : Prop :=
  pcodeX (cx w0) 117 lv n cuts Z (cAt code 9) 9 [(0, l_), (3, a), (4, e_), (5, b), (34, (.pv (.bool t34)))] σ (q7 Z w0 n R)
def n18 : Prop :=
  Z (cAt code 18) 18 [(0, l_), (3, a), (4, e_), (5, b), (7, (.pv (.int .i64 i)))] σ (q18 Z w0 n R)
def b19 : Prop :=
  pcodeX (cx w0) 117 lv n cuts Z (cAt code 19) 19 [(0, l_), (3, a), (4, e_), (5, b), (7, (.pv (.int .i64 i)))] σ (q19 Z w0 n R)
def n35 : Prop :=
  Z (cAt code 35) 35 [(0, l_), (3, a), (4, e_)] σ (finQ (cx w0) Tryz.f5 n R)
def b35 : Prop :=
  pcodeX (cx w0) 117 lv n cuts Z (cAt code 35) 35 [(0, l_), (3, a), (4, e_)] σ (finQ (cx w0) Tryz.f5 n R)
def n42 : Prop :=
  Z (cAt code 42) 42 [(3, a), (10, c), (70, (.pv (.bool t70)))] σ (q40 Z w0 n R)
def b42 : Prop :=
  pcodeX (cx w0) 117 lv n cuts Z (cAt code 42) 42 [(3, a), (10, c), (70, (.pv (.bool t70)))] σ (q40 Z w0 n R)
def n51 : Prop :=
  Z (cAt code 51) 51 [(3, a), (10, c), (12, (.pv (.int .i64 i)))] σ (q51 Z w0 n R)
def b52 : Prop :=
  pcodeX (cx w0) 117 lv n cuts Z (cAt code 52) 52 [(3, a), (10, c), (12, (.pv (.int .i64 i)))] σ (q52 Z w0 n R)
def n62 : Prop :=
  Z (cAt code 62) 62 [(3, a), (10, c), (12, (.pv (.int .i64 i))), (108, (.pv (.bool t108)))] σ (q60 Z w0 n R)
def b62 : Prop :=
  pcodeX (cx w0) 117 lv n cuts Z (cAt code 62) 62 [(3, a), (10, c), (12, (.pv (.int .i64 i))), (108, (.pv (.bool t108)))] σ (q60 Z w0 n R)
def n68 : Prop :=
  Z (cAt code 68) 68 [(3, a), (10, c)] σ (finQ (cx w0) Tryz.f5 n R)
def b68 : Prop :=
  pcodeX (cx w0) 117 lv n cuts Z (cAt code 68) 68 [(3, a), (10, c)] σ (finQ (cx w0) Tryz.f5 n R)
def n70 : Prop :=
  Z (cAt code 70) 70 [(2, (.pv (.bool t2)))] σ (finQ (cx w0) Tryz.f5 n R)
def b70 : Prop :=
  pcodeX (cx w0) 117 lv n cuts Z (cAt code 70) 70 [(2, (.pv (.bool t2)))] σ (finQ (cx w0) Tryz.f5 n R)
def b0 : Prop :=
  pcodeX (cx w0) 117 lv n cuts Z code 0 (argsE 0 [l_]) σ (finQ (cx w0) Tryz.f5 n R)
end
variable {Z : XT} {w0 : Base} {n : Nat} {R : RT} {σ τ : Store} {l_ a e_ b c l_' a' e_' b' c' : AV} {t34 t70 t108 t2 : Bool} {i i' : Int}
theorem b9_eq : b9 Z w0 n R σ l_ a e_ b t34 = (
  condB t34 (FinK (cx w0) n (.pv (.bool false)) σ R) (n18 Z w0 n R σ l_ a e_ b 0)) := by kernel_rfl
theorem n9_in (h : b9 (X w0 n) w0 n R σ l_ a e_ b t34) : n9 (X w0 n) w0 n R σ l_ a e_ b t34 := xr_in (S := cuts) (by kernel_rfl) @h
theorem n18_in (h : b19 (X w0 n) w0 n R σ l_ a e_ b i) : n18 (X w0 n) w0 n R σ l_ a e_ b i := xr_round (cxOK w0) (S := cuts) (by kernel_rfl : cAt code 18 = .loop (cAt code 19)) @h
theorem b19_eq : b19 Z w0 n R σ l_ a e_ b i = (
  opt (aLen ti48.td a) fun t37 => isI .i64 t37 fun t37_1 => condB (decide ((i : Int) < t37_1)) (opt (aIndexAddr σ tabS ti48.td a i) fun t43 => opt (aLoad σ ti56 t43) fun t44 => opt (aIndexAddr σ tabS ti51.td b i) fun t47 => opt (aLoad σ ti55 t47) fun t48 => aBinK tabS 55 false .neq t44 t48 fun v => isB v fun b_1 => condB b_1 (FinK (cx w0) n (.pv (.bool false)) σ R) (n18 Z w0 n R σ l_ a e_ b (IntKind.wrap .i64 (i + 1)))) (n35 Z w0 n R σ l_ a e_)) := by kernel_rfl
theorem b35_eq : b35 Z w0 n R σ l_ a e_ = (
  SCalls (cx w0) selvagelaw28_twins.id [l_] σ fun r σ' => SCalls (cx w0) stream_Reverse.id [r] σ' fun r_1 σ'_1 => isTup r_1 fun vs => opt ((vs)[0]?) fun t54 => isTup r_1 fun vs_1 => opt ((vs_1)[1]?) fun t55 => SCalls (cx w0) stream_Counts.id [t54] σ'_1 fun r_2 σ'_2 => isTup r_2 fun vs_2 => opt ((vs_2)[0]?) fun t59 => isTup r_2 fun vs_3 => opt ((vs_3)[1]?) fun t60 => aBinK tabS 24 true .neq e_ (.pv (.raw .nilIface)) fun v => isB v fun b => condB b (n42 Z w0 n R σ'_2 a t59 true) (aBinK tabS 24 true .neq t55 (.pv (.raw .nilIface)) fun v_1 => isB v_1 fun b_1 => condB b_1 (n42 Z w0 n R σ'_2 a t59 true) (aBinK tabS 24 true .neq t60 (.pv (.raw .nilIface)) fun v_2 => isB v_2 fun b_2 => n42 Z w0 n R σ'_2 a t59 b_2))) := by kernel_rfl
theorem n35_in (h : b35 (X w0 n) w0 n R σ l_ a e_) : n35 (X w0 n) w0 n R σ l_ a e_ := xr_in (S := cuts) (by kernel_rfl) @h
theorem b42_eq : b42 Z w0 n R σ a c t70 = (
  condB t70 (SCalls (cx w0) selvagelaw28_works.id [] σ fun r σ' => isB r fun t71 => FinK (cx w0) n (.pv (.bool t71)) σ' R) (n51 Z w0 n R σ a c 0)) := by kernel_rfl
theorem n42_in (h : b42 (X w0 n) w0 n R σ a c t70) : n42 (X w0 n) w0 n R σ a c t70 := xr_in (S := cuts) (by kernel_rfl) @h
theorem n51_in (h : b52 (X w0 n) w0 n R σ a c i) : n51 (X w0 n) w0 n R σ a c i := xr_round (cxOK w0) (S := cuts) (by kernel_rfl : cAt code 51 = .loop (cAt code 52)) @h
theorem b52_eq : b52 Z w0 n R σ a c i = (
  opt (aLen ti48.td c) fun t74 => isI .i64 t74 fun t74_1 => condB (decide ((i : Int) < t74_1)) (opt (aLen ti48.td c) fun t79 => isI .i64 t79 fun t79_1 => opt (aLen ti48.td a) fun t81 => isI .i64 t81 fun t81_1 => condB ((t79_1 : Int) != t81_1) (n62 Z w0 n R σ a c i true) (opt (aIndexAddr σ tabS ti48.td c i) fun t86 => opt (aFieldAddr tabS ti56.td t86 1) fun t87 => opt (aLoad σ ti3 t87) fun t88 => isI .i64 t88 fun t88_1 => opt (aIndexAddr σ tabS ti48.td a i) fun t91 => opt (aFieldAddr tabS ti56.td t91 2) fun t92 => opt (aLoad σ ti3 t92) fun t93 => isI .i64 t93 fun t93_1 => condB ((t88_1 : Int) != t93_1) (n62 Z w0 n R σ a c i true) (opt (aIndexAddr σ tabS ti48.td c i) fun t99 => opt (aFieldAddr tabS ti56.td t99 2) fun t100 => opt (aLoad σ ti3 t100) fun t101 => isI .i64 t101 fun t101_1 => opt (aIndexAddr σ tabS ti48.td a i) fun t104 => opt (aFieldAddr tabS ti56.td t104 1) fun t105 => opt (aLoad σ ti3 t105) fun t106 => isI .i64 t106 fun t106_1 => n62 Z w0 n R σ a c i ((t101_1 : Int) != t106_1)))) (n68 Z w0 n R σ a c)) := by kernel_rfl
theorem b62_eq : b62 Z w0 n R σ a c i t108 = (
  condB t108 (FinK (cx w0) n (.pv (.bool false)) σ R) (n51 Z w0 n R σ a c (IntKind.wrap .i64 (i + 1)))) := by kernel_rfl
theorem n62_in (h : b62 (X w0 n) w0 n R σ a c i t108) : n62 (X w0 n) w0 n R σ a c i t108 := xr_in (S := cuts) (by kernel_rfl) @h
theorem b68_eq : b68 Z w0 n R σ a c = (
  opt (aLen ti48.td c) fun t110 => isI .i64 t110 fun t110_1 => opt (aLen ti48.td a) fun t112 => isI .i64 t112 fun t112_1 => condB ((t110_1 : Int) == t112_1) (SCalls (cx w0) selvagelaw28_works.id [] σ fun r σ' => isB r fun t115 => n70 Z w0 n R σ' t115) (n70 Z w0 n R σ false)) := by kernel_rfl
theorem n68_in (h : b68 (X w0 n) w0 n R σ a c) : n68 (X w0 n) w0 n R σ a c := xr_in (S := cuts) (by kernel_rfl) @h
theorem b70_eq : b70 Z w0 n R σ t2 = (
  FinK (cx w0) n (.pv (.bool t2)) σ R) := by kernel_rfl
theorem n70_in (h : b70 (X w0 n) w0 n R σ t2) : n70 (X w0 n) w0 n R σ t2 := xr_in (S := cuts) (by kernel_rfl) @h
theorem b0_eq : b0 Z w0 n R σ l_ = (
  SCalls (cx w0) selvagelaw28_twins.id [l_] σ fun r σ' => SCalls (cx w0) stream_Counts.id [r] σ' fun r_1 σ'_1 => isTup r_1 fun vs => opt ((vs)[0]?) fun t17 => isTup r_1 fun vs_1 => opt ((vs_1)[1]?) fun t18 => SCalls (cx w0) selvageref28_Counts.id [l_] σ'_1 fun r_2 σ'_2 => isTup r_2 fun vs_2 => opt ((vs_2)[0]?) fun t22 => isTup r_2 fun vs_3 => opt ((vs_3)[1]?) fun t23 => isI .i64 t23 fun t23_1 => opt (aLen ti48.td t17) fun t25 => isI .i64 t25 fun t25_1 => opt (aLen ti51.td t22) fun t27 => isI .i64 t27 fun t27_1 => condB ((t25_1 : Int) != t27_1) (n9 Z w0 n R σ'_2 l_ t17 t18 t22 true) (SCalls (cx w0) selvagelaw28_num.id [t18] σ'_2 fun r_3 σ'_3 => isI .i64 r_3 fun t31 => n9 Z w0 n R σ'_3 l_ t17 t18 t22 ((t31 : Int) != t23_1))) := by kernel_rfl
theorem calls (h : b0 (X w0 (List.length σ)) w0 (List.length σ) R σ l_) : SCalls (cx w0) selvagelaw28_StreamTotals.id [l_] σ R :=
  xr_enter (cxOK w0) (x := fe) (S := cuts) (selvagelaw28_StreamTotals.ok w0) (by kernel_rfl) @h
attribute [irreducible] n9 b9 n18 b19 n35 b35 n42 b42 n51 b52 n62 b62 n68 b68 n70 b70 b0
end selvagelaw28_StreamTotals
end Go.Sv
