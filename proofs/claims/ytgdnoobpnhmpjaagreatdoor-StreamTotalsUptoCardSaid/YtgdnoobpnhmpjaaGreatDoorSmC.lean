/- What the code of Go functions comes to over abstract stores, piece by piece; each equation by the kernel. Printed by a program of this session. -/
import Derived.Test.YtgdnoobpnhmpjaaGreatDoorSvT
import Derived.KernelRfl
set_option linter.unusedVariables false
set_option maxRecDepth 100000
namespace Go.Sv
open Go Go.Proofs
namespace stream_Reverse
def lvs : List (List Nat) := [[0], [0], [0], [0], [0, 4], [0, 4], [0, 4], [4, 10, 11, 12], [4, 10, 11, 12], [4, 10, 11, 12], [4, 10, 11, 12], [4, 10, 11, 12, 13], [4, 10, 11, 12, 13], [4, 10, 11, 12], [4], [4, 10, 11, 12], [4, 10, 11, 12], [4, 10, 11, 12], [4, 10, 11, 12], [4, 6, 10, 11, 12], [4, 6, 10, 11, 12], [4, 6, 10, 11, 12], [4, 6, 10, 11, 12, 18], [], [], [2, 3], [4, 6, 10, 11, 12], [4, 6, 10, 11, 12], [4, 6, 10, 11, 12], [4, 6, 7, 10, 11, 12], [4, 6, 7, 10, 11, 12], [4, 6, 7, 10, 11, 12], [4, 6, 7, 10, 11, 12], [4, 6, 7, 10, 11, 12], [4, 6, 7, 10, 11, 12], [4, 6, 7, 10, 11, 12], [4, 7, 10, 11, 12, 29, 30, 31], [4, 7, 10, 11, 12, 29, 30, 31], [4, 7, 10, 11, 12, 29, 30, 31], [4, 7, 10, 11, 12, 29, 30, 31], [4, 7, 10, 11, 12, 29, 30, 31, 32], [4, 7, 10, 11, 12, 29, 30, 31, 32], [4, 7, 10, 11, 12, 29, 30, 31], [4, 7, 10, 11, 12], [4, 7, 10, 11, 12, 29, 30, 31], [4, 7, 10, 11, 12, 29, 30, 31], [4, 7, 10, 11, 12, 29, 30, 31], [4, 7, 10, 11, 12, 29, 30, 31], [4, 7, 9, 10, 11, 12, 29, 30, 31], [4, 7, 10, 11, 12, 29, 30, 31], [4, 7, 10, 11, 12], [4, 10, 11, 12], [4], [4], [2, 3]]
def lv : Nat → List Nat := lvOf lvs
noncomputable def code : Code := bodyOf Tryz.f12
noncomputable def fe : FE := ⟨Tryz.f12, code, lv⟩
def cuts : List Nat := [9, 38, 50, 51, 52]
abbrev X (w0 : Base) (n : Nat) : XT := xr (cx w0) 49 lv n
theorem ok (w0 : Base) : FOK (cx w0) stream_Reverse.id fe := ⟨Tryz.func12, by kernel_rfl, by kernel_rfl⟩
section
variable (Z : XT) (w0 : Base) (n : Nat) (R : RT) (σ : Store) (out t t10 : AV) (t11 t12 : Int) (t29 : AV) (t30 t31 : Int) (l_ : AV)
def q5 : QT := thenQ (fun env σ => Z (cAt code 52) 52 (prune (lv 52) env) σ (finQ (cx w0) Tryz.f12 n R)) (finQ (cx w0) Tryz.f12 n R)
def q8 : QT := blockQ 0 (q5 Z w0 n R)
def q9 : QT := thenQ (fun env σ => Z (cAt code 8) 8 (prune (lv 8) env) σ (q8 Z w0 n R)) (q8 Z w0 n R)
def q16 : QT := thenQ (fun env σ => Z (cAt code 51) 51 (prune (lv 51) env) σ (q9 Z w0 n R)) (q9 Z w0 n R)
def q17 : QT := blockQ 1 (q16 Z w0 n R)
def q34 : QT := thenQ (fun env σ => Z (cAt code 50) 50 (prune (lv 50) env) σ (q17 Z w0 n R)) (q17 Z w0 n R)
def q37 : QT := blockQ 2 (q34 Z w0 n R)
def q38 : QT := thenQ (fun env σ => Z (cAt code 37) 37 (prune (lv 37) env) σ (q37 Z w0 n R)) (q37 Z w0 n R)
def n8 : Prop :=
  Z (cAt code 8) 8 [(4, out), (10, t10), (11, (.pv (.int .i64 t11))), (12, (.pv (.int .i64 t12)))] σ (q8 Z w0 n R)
def b9 : Prop :=
  pcodeX (cx w0) 49 lv n cuts Z (cAt code 9) 9 [(4, out), (10, t10), (11, (.pv (.int .i64 t11))), (12, (.pv (.int .i64 t12)))] σ (q9 Z w0 n R)
def n37 : Prop :=
  Z (cAt code 37) 37 [(4, out), (7, t), (10, t10), (11, (.pv (.int .i64 t11))), (12, (.pv (.int .i64 t12))), (29, t29), (30, (.pv (.int .i64 t30))), (31, (.pv (.int .i64 t31)))] σ (q37 Z w0 n R)
def b38 : Prop :=
  pcodeX (cx w0) 49 lv n cuts Z (cAt code 38) 38 [(4, out), (7, t), (10, t10), (11, (.pv (.int .i64 t11))), (12, (.pv (.int .i64 t12))), (29, t29), (30, (.pv (.int .i64 t30))), (31, (.pv (.int .i64 t31)))] σ (q38 Z w0 n R)
def n50 : Prop :=
  Z (cAt code 50) 50 [(4, out), (7, t), (10, t10), (11, (.pv (.int .i64 t11))), (12, (.pv (.int .i64 t12)))] σ (q17 Z w0 n R)
def b50 : Prop :=
  pcodeX (cx w0) 49 lv n cuts Z (cAt code 50) 50 [(4, out), (7, t), (10, t10), (11, (.pv (.int .i64 t11))), (12, (.pv (.int .i64 t12)))] σ (q17 Z w0 n R)
def n51 : Prop :=
  Z (cAt code 51) 51 [(4, out), (10, t10), (11, (.pv (.int .i64 t11))), (12, (.pv (.int .i64 t12)))] σ (q9 Z w0 n R)
def b51 : Prop :=
  pcodeX (cx w0) 49 lv n cuts Z (cAt code 51) 51 [(4, out), (10, t10), (11, (.pv (.int .i64 t11))), (12, (.pv (.int .i64 t12)))] σ (q9 Z w0 n R)
def n52 : Prop :=
  Z (cAt code 52) 52 [(4, out)] σ (finQ (cx w0) Tryz.f12 n R)
def b52 : Prop :=
  pcodeX (cx w0) 49 lv n cuts Z (cAt code 52) 52 [(4, out)] σ (finQ (cx w0) Tryz.f12 n R)
def b0 : Prop :=
  pcodeX (cx w0) 49 lv n cuts Z code 0 (argsE 0 [l_]) σ (finQ (cx w0) Tryz.f12 n R)
end
variable {Z : XT} {w0 : Base} {n : Nat} {R : RT} {σ τ : Store} {out t10 t t29 l_ out' t10' t' t29' : AV} {t11 t12 t30 t31 t11' t12' t30' t31' : Int}
theorem n8_in (h : b9 (X w0 n) w0 n R σ out t10 t11 t12) : n8 (X w0 n) w0 n R σ out t10 t11 t12 := xr_round (cxOK w0) (S := cuts) (by kernel_rfl : cAt code 8 = .loop (cAt code 9)) @h
theorem n8_weak (e : EWeak (cx w0) n [(4, out), (10, t10), (11, (.pv (.int .i64 t11))), (12, (.pv (.int .i64 t12)))] σ [(4, out'), (10, t10'), (11, (.pv (.int .i64 t11'))), (12, (.pv (.int .i64 t12')))] τ) (h : n8 (X w0 n) w0 n R τ out' t10' t11' t12') : n8 (X w0 n) w0 n R σ out t10 t11 t12 := xr_weak (L := lv) (k := 8) (by kernel_rfl : cAt code 8 = .loop (cAt code 9)) @e @h
theorem b9_eq : b9 Z w0 n R σ out t10 t11 t12 = (
  condB (decide ((t12 : Int) < t11)) (opt (aIndexAddr σ tabS ti22.td t10 t12) fun t14 => opt (aLoad σ ti31 t14) fun t15 => opt (aStore (σ ++ [.cells 31 (AV.ofValue ti31.zero).cells]) ti31 (.ptr (List.length σ) 0) t15) fun σ' => opt (aFieldAddr tabS ti31.td (.ptr (List.length σ) 0) 0) fun t16 => opt (aLoad σ' ti3 t16) fun t17 => isI .i64 t17 fun t17_1 => condB ((t17_1 : Int) == 4) (opt (aMakeInterface 61 (.pv (.int .i64 1))) fun t19 => FinK (cx w0) n (.tup [.nilsl, t19]) σ' R) (opt (aLoad σ' ti31 (.ptr (List.length σ) 0)) fun t20 => opt (aStore (σ' ++ [.cells 31 (AV.ofValue ti31.zero).cells]) ti31 (.ptr (List.length σ') 0) t20) fun σ'_1 => opt (aFieldAddr tabS ti31.td (.ptr (List.length σ) 0) 2) fun t21 => opt (aLoad σ'_1 ti28 t21) fun t22 => opt (aFieldAddr tabS ti31.td (.ptr (List.length σ) 0) 1) fun t23 => opt (aLoad σ'_1 ti28 t23) fun t24 => opt (aFieldAddr tabS ti31.td (.ptr (List.length σ') 0) 1) fun t25 => opt (aStore σ'_1 ti28 t25 t22) fun σ'_2 => ((opt (aLoad σ'_2 ti28 t23) fun t24_1 => ((t24_1 : AV) = t24)) ∧ (opt (aFieldAddr tabS ti31.td (.ptr (List.length σ') 0) 2) fun t26 => opt (aStore σ'_2 ti28 t26 t24) fun σ'_3 => opt (aFieldAddr tabS ti31.td (.ptr (List.length σ') 0) 4) fun t27 => opt (aStore σ'_3 ti29 t27 .nilsl) fun σ'_4 => opt (aFieldAddr tabS ti31.td (.ptr (List.length σ) 0) 4) fun t28 => opt (aLoad σ'_4 ti29 t28) fun t29 => opt (aLen ti29.td t29) fun t30 => isI .i64 t30 fun t30_1 => n37 Z w0 n R σ'_4 out (.ptr (List.length σ') 0) t10 t11 t12 t29 t30_1 0)))) (n52 Z w0 n R σ out)) := by kernel_rfl
theorem n37_in (h : b38 (X w0 n) w0 n R σ out t t10 t11 t12 t29 t30 t31) : n37 (X w0 n) w0 n R σ out t t10 t11 t12 t29 t30 t31 := xr_round (cxOK w0) (S := cuts) (by kernel_rfl : cAt code 37 = .loop (cAt code 38)) @h
theorem n37_weak (e : EWeak (cx w0) n [(4, out), (7, t), (10, t10), (11, (.pv (.int .i64 t11))), (12, (.pv (.int .i64 t12))), (29, t29), (30, (.pv (.int .i64 t30))), (31, (.pv (.int .i64 t31)))] σ [(4, out'), (7, t'), (10, t10'), (11, (.pv (.int .i64 t11'))), (12, (.pv (.int .i64 t12'))), (29, t29'), (30, (.pv (.int .i64 t30'))), (31, (.pv (.int .i64 t31')))] τ) (h : n37 (X w0 n) w0 n R τ out' t' t10' t11' t12' t29' t30' t31') : n37 (X w0 n) w0 n R σ out t t10 t11 t12 t29 t30 t31 := xr_weak (L := lv) (k := 37) (by kernel_rfl : cAt code 37 = .loop (cAt code 38)) @e @h
theorem b38_eq : b38 Z w0 n R σ out t t10 t11 t12 t29 t30 t31 = (
  condB (decide ((t31 : Int) < t30)) (opt (aIndexAddr σ tabS ti29.td t29 t31) fun t33 => opt (aLoad σ ti46 t33) fun t34 => opt (aStore (σ ++ [.cells 46 (AV.ofValue ti46.zero).cells]) ti46 (.ptr (List.length σ) 0) t34) fun σ' => opt (aFieldAddr tabS ti31.td t 4) fun t35 => opt (aLoad σ' ti29 t35) fun t36 => opt (aLoad σ' ti46 (.ptr (List.length σ) 0)) fun t37 => SCalls (cx w0) hunks_Reverse.id [t37] σ' fun r σ'_1 => ((opt (aLoad σ'_1 ti29 t35) fun t36_1 => ((t36_1 : AV) = t36)) ∧ (opt2 (aBuildSlice σ'_1 ti46 false 1 [(0, r)]) fun t39 σ'_2 => ((opt (aLoad σ'_2 ti29 t35) fun t36_2 => ((t36_2 : AV) = t36)) ∧ (opt2 (aAppend σ'_2 ti46 t36 t39) fun t40 σ'_3 => opt (aFieldAddr tabS ti31.td t 4) fun t41 => opt (aStore σ'_3 ti29 t41 t40) fun σ'_4 => n37 Z w0 n R σ'_4 out t t10 t11 t12 t29 t30 (IntKind.wrap .i64 (t31 + 1))))))) (n50 Z w0 n R σ out t t10 t11 t12)) := by kernel_rfl
theorem b50_eq : b50 Z w0 n R σ out t t10 t11 t12 = (
  opt (aLoad σ ti31 t) fun t44 => opt2 (aBuildSlice σ ti31 false 1 [(0, t44)]) fun t45 σ' => opt2 (aAppend σ' ti31 out t45) fun t46 σ'_1 => n51 Z w0 n R σ'_1 t46 t10 t11 t12) := by kernel_rfl
theorem n50_in (h : b50 (X w0 n) w0 n R σ out t t10 t11 t12) : n50 (X w0 n) w0 n R σ out t t10 t11 t12 := xr_in (S := cuts) (by kernel_rfl) @h
theorem b51_eq : b51 Z w0 n R σ out t10 t11 t12 = (
  n8 Z w0 n R σ out t10 t11 (IntKind.wrap .i64 (t12 + 1))) := by kernel_rfl
theorem n51_in (h : b51 (X w0 n) w0 n R σ out t10 t11 t12) : n51 (X w0 n) w0 n R σ out t10 t11 t12 := xr_in (S := cuts) (by kernel_rfl) @h
theorem b52_eq : b52 Z w0 n R σ out = (
  FinK (cx w0) n (.tup [out, (.pv (.raw .nilIface))]) σ R) := by kernel_rfl
theorem n52_in (h : b52 (X w0 n) w0 n R σ out) : n52 (X w0 n) w0 n R σ out := xr_in (S := cuts) (by kernel_rfl) @h
theorem b0_eq : b0 Z w0 n R σ l_ = (
  opt (aLen ti22.td l_) fun t11 => isI .i64 t11 fun t11_1 => n8 Z w0 n R σ .nilsl l_ t11_1 0) := by kernel_rfl
theorem calls (h : b0 (X w0 (List.length σ)) w0 (List.length σ) R σ l_) : SCalls (cx w0) stream_Reverse.id [l_] σ R :=
  xr_enter (cxOK w0) (x := fe) (S := cuts) (stream_Reverse.ok w0) (by kernel_rfl) @h
attribute [irreducible] n8 b9 n37 b38 n50 b50 n51 b51 n52 b52 b0
end stream_Reverse
namespace stream_named
def lvs : List (List Nat) := [[0], [0], [1], [1], [1], [14, 15, 16], [14, 15, 16], [14, 15, 16], [14, 15, 16], [14, 15, 16, 17], [14, 15, 16, 17], [14, 15, 16], [], [14, 15, 16], [14, 15, 16], [14, 15, 16], [14, 15, 16], [5, 14, 15, 16], [5, 14, 15, 16], [5, 14, 15, 16, 25], [5], [5], [2, 3], [14, 15, 16], [14, 15, 16], [], [], [2, 3]]
def lv : Nat → List Nat := lvOf lvs
noncomputable def code : Code := bodyOf Tryz.f37
noncomputable def fe : FE := ⟨Tryz.f37, code, lv⟩
def cuts : List Nat := [7, 19, 25]
abbrev X (w0 : Base) (n : Nat) : XT := xr (cx w0) 28 lv n
theorem ok (w0 : Base) : FOK (cx w0) stream_named.id fe := ⟨Tryz.func37, by kernel_rfl, by kernel_rfl⟩
section
variable (Z : XT) (w0 : Base) (n : Nat) (R : RT) (σ : Store) (n_ : List UInt8) (t14 : AV) (t15 t16 : Int) (t25 : Bool) (s : AV)
def q3 : QT := thenQ (fun env σ => Z (cAt code 25) 25 (prune (lv 25) env) σ (finQ (cx w0) Tryz.f37 n R)) (finQ (cx w0) Tryz.f37 n R)
def q6 : QT := blockQ 0 (q3 Z w0 n R)
def q7 : QT := thenQ (fun env σ => Z (cAt code 6) 6 (prune (lv 6) env) σ (q6 Z w0 n R)) (q6 Z w0 n R)
def q14 : QT := thenQ (fun env σ => pcodeX (cx w0) 28 lv n cuts Z (cAt code 24) 24 (prune (lv 24) env) σ (q7 Z w0 n R)) (q7 Z w0 n R)
def q15 : QT := blockQ 1 (q14 Z w0 n R)
def n6 : Prop :=
  Z (cAt code 6) 6 [(14, t14), (15, (.pv (.int .i64 t15))), (16, (.pv (.int .i64 t16)))] σ (q6 Z w0 n R)
def b7 : Prop :=
  pcodeX (cx w0) 28 lv n cuts Z (cAt code 7) 7 [(14, t14), (15, (.pv (.int .i64 t15))), (16, (.pv (.int .i64 t16)))] σ (q7 Z w0 n R)
def n19 : Prop :=
  Z (cAt code 19) 19 [(5, (.pv (.str n_))), (14, t14), (15, (.pv (.int .i64 t15))), (16, (.pv (.int .i64 t16))), (25, (.pv (.bool t25)))] σ (q15 Z w0 n R)
def b19 : Prop :=
  pcodeX (cx w0) 28 lv n cuts Z (cAt code 19) 19 [(5, (.pv (.str n_))), (14, t14), (15, (.pv (.int .i64 t15))), (16, (.pv (.int .i64 t16))), (25, (.pv (.bool t25)))] σ (q15 Z w0 n R)
def n25 : Prop :=
  Z (cAt code 25) 25 [] σ (finQ (cx w0) Tryz.f37 n R)
def b25 : Prop :=
  pcodeX (cx w0) 28 lv n cuts Z (cAt code 25) 25 [] σ (finQ (cx w0) Tryz.f37 n R)
def b0 : Prop :=
  pcodeX (cx w0) 28 lv n cuts Z code 0 (argsE 0 [s]) σ (finQ (cx w0) Tryz.f37 n R)
end
variable {Z : XT} {w0 : Base} {n : Nat} {R : RT} {σ τ : Store} {t14 s t14' : AV} {t15 t16 t15' t16' : Int} {n_ : List UInt8} {t25 : Bool}
theorem n6_in (h : b7 (X w0 n) w0 n R σ t14 t15 t16) : n6 (X w0 n) w0 n R σ t14 t15 t16 := xr_round (cxOK w0) (S := cuts) (by kernel_rfl : cAt code 6 = .loop (cAt code 7)) @h
theorem b7_eq : b7 Z w0 n R σ t14 t15 t16 = (
  condB (decide ((t16 : Int) < t15)) (opt (aIndexAddr σ tabS ti63.td t14 t16) fun t18 => opt (aLoad σ ti9 t18) fun t19 => isS t19 fun t19_1 => condB (!((t19_1 : List UInt8) == [])) (n19 Z w0 n R σ t19_1 t14 t15 t16 (!((t19_1 : List UInt8) == [47, 100, 101, 118, 47, 110, 117, 108, 108]))) (n19 Z w0 n R σ t19_1 t14 t15 t16 false)) (n25 Z w0 n R σ)) := by kernel_rfl
theorem b19_eq : b19 Z w0 n R σ n_ t14 t15 t16 t25 = (
  condB t25 (FinK (cx w0) n (.tup [(.pv (.str n_)), (.pv (.bool true))]) σ R) (n6 Z w0 n R σ t14 t15 (IntKind.wrap .i64 (t16 + 1)))) := by kernel_rfl
theorem n19_in (h : b19 (X w0 n) w0 n R σ n_ t14 t15 t16 t25) : n19 (X w0 n) w0 n R σ n_ t14 t15 t16 t25 := xr_in (S := cuts) (by kernel_rfl) @h
theorem b25_eq : b25 Z w0 n R σ = (
  FinK (cx w0) n (.tup [(.pv (.str [])), (.pv (.bool false))]) σ R) := by kernel_rfl
theorem n25_in (h : b25 (X w0 n) w0 n R σ) : n25 (X w0 n) w0 n R σ := xr_in (S := cuts) (by kernel_rfl) @h
theorem b0_eq : b0 Z w0 n R σ s = (
  ((AV.cells s).all AV.one = true ∧ (opt (aFieldAddr tabS ti31.td (.ptr (List.length σ) 0) 2) fun t6 => opt (aFieldAddr tabS ti28.td t6 0) fun t7 => opt (aLoad (σ ++ [.cells 31 (AV.cells s)]) ti9 t7) fun t8 => isS t8 fun t8_1 => opt (aFieldAddr tabS ti31.td (.ptr (List.length σ) 0) 1) fun t9 => opt (aFieldAddr tabS ti28.td t9 0) fun t10 => opt (aLoad (σ ++ [.cells 31 (AV.cells s)]) ti9 t10) fun t11 => isS t11 fun t11_1 => opt (aFieldAddr tabS ti31.td (.ptr (List.length σ) 0) 3) fun t12 => opt (aLoad (σ ++ [.cells 31 (AV.cells s)]) ti9 t12) fun t13 => isS t13 fun t13_1 => opt2 (aBuildSlice (σ ++ [.cells 31 (AV.cells s)]) ti9 false 3 [(0, (.pv (.str t8_1))), (1, (.pv (.str t11_1))), (2, (.pv (.str t13_1)))]) fun t14 σ' => opt (aLen ti63.td t14) fun t15 => isI .i64 t15 fun t15_1 => n6 Z w0 n R σ' t14 t15_1 0))) := by kernel_rfl
theorem calls (h : b0 (X w0 (List.length σ)) w0 (List.length σ) R σ s) : SCalls (cx w0) stream_named.id [s] σ R :=
  xr_enter (cxOK w0) (x := fe) (S := cuts) (stream_named.ok w0) (by kernel_rfl) @h
attribute [irreducible] n6 b7 n19 b19 n25 b25 b0
end stream_named
namespace stream_Counts
def lvs : List (List Nat) := [[0], [0], [0], [0], [0], [0, 15, 16, 17], [0, 15, 16, 17], [0, 15, 16, 17], [0, 15, 16, 17], [0, 15, 16, 17, 18], [0, 15, 16, 17, 18], [0, 15, 16, 17], [0], [0, 15, 16, 17], [0, 15, 16, 17], [0, 15, 16, 17], [0, 15, 16, 17], [0, 5, 15, 16, 17], [0, 5, 15, 16, 17], [0, 5, 7, 15, 16, 17], [0, 5, 7, 15, 16, 17], [0, 15, 16, 17, 32], [], [], [2, 3], [0, 15, 16, 17], [0, 15, 16, 17], [0], [0], [0, 8], [0, 8], [0, 8], [8, 35, 36, 37], [8, 35, 36, 37], [8, 35, 36, 37], [8, 35, 36, 37], [8, 35, 36, 37, 38], [8, 35, 36, 37, 38], [8, 35, 36, 37], [8], [8, 35, 36, 37], [8, 35, 36, 37], [8, 35, 36, 37], [8, 35, 36, 37], [8, 10, 35, 36, 37], [8, 10, 35, 36, 37], [8, 10, 11, 35, 36, 37], [8, 10, 11, 35, 36, 37], [8, 13, 14, 35, 36, 37], [8, 13, 14, 35, 36, 37], [8, 13, 14, 35, 36, 37], [8, 13, 14, 35, 36, 37, 54], [14], [14], [2, 3], [8, 13, 35, 36, 37], [8, 13, 35, 36, 37], [8, 35, 36, 37], [8], [8], [2, 3]]
def lv : Nat → List Nat := lvOf lvs
noncomputable def code : Code := bodyOf Tryz.f17
noncomputable def fe : FE := ⟨Tryz.f17, code, lv⟩
def cuts : List Nat := [7, 21, 27, 34, 58]
abbrev X (w0 : Base) (n : Nat) : XT := xr (cx w0) 62 lv n
theorem ok (w0 : Base) : FOK (cx w0) stream_Counts.id fe := ⟨Tryz.func17, by kernel_rfl, by kernel_rfl⟩
section
variable (Z : XT) (w0 : Base) (n : Nat) (R : RT) (σ : Store) (l_ t15 : AV) (t16 t17 : Int) (t32 : Bool) (out t35 : AV) (t36 t37 : Int)
def q3 : QT := thenQ (fun env σ => Z (cAt code 27) 27 (prune (lv 27) env) σ (finQ (cx w0) Tryz.f17 n R)) (finQ (cx w0) Tryz.f17 n R)
def q6 : QT := blockQ 0 (q3 Z w0 n R)
def q7 : QT := thenQ (fun env σ => Z (cAt code 6) 6 (prune (lv 6) env) σ (q6 Z w0 n R)) (q6 Z w0 n R)
def q14 : QT := thenQ (fun env σ => pcodeX (cx w0) 62 lv n cuts Z (cAt code 26) 26 (prune (lv 26) env) σ (q7 Z w0 n R)) (q7 Z w0 n R)
def q15 : QT := blockQ 1 (q14 Z w0 n R)
def q30 : QT := thenQ (fun env σ => Z (cAt code 58) 58 (prune (lv 58) env) σ (finQ (cx w0) Tryz.f17 n R)) (finQ (cx w0) Tryz.f17 n R)
def q33 : QT := blockQ 2 (q30 Z w0 n R)
def q34 : QT := thenQ (fun env σ => Z (cAt code 33) 33 (prune (lv 33) env) σ (q33 Z w0 n R)) (q33 Z w0 n R)
def n6 : Prop :=
  Z (cAt code 6) 6 [(0, l_), (15, t15), (16, (.pv (.int .i64 t16))), (17, (.pv (.int .i64 t17)))] σ (q6 Z w0 n R)
def b7 : Prop :=
  pcodeX (cx w0) 62 lv n cuts Z (cAt code 7) 7 [(0, l_), (15, t15), (16, (.pv (.int .i64 t16))), (17, (.pv (.int .i64 t17)))] σ (q7 Z w0 n R)
def n21 : Prop :=
  Z (cAt code 21) 21 [(0, l_), (15, t15), (16, (.pv (.int .i64 t16))), (17, (.pv (.int .i64 t17))), (32, (.pv (.bool t32)))] σ (q15 Z w0 n R)
def b21 : Prop :=
  pcodeX (cx w0) 62 lv n cuts Z (cAt code 21) 21 [(0, l_), (15, t15), (16, (.pv (.int .i64 t16))), (17, (.pv (.int .i64 t17))), (32, (.pv (.bool t32)))] σ (q15 Z w0 n R)
def n27 : Prop :=
  Z (cAt code 27) 27 [(0, l_)] σ (finQ (cx w0) Tryz.f17 n R)
def b27 : Prop :=
  pcodeX (cx w0) 62 lv n cuts Z (cAt code 27) 27 [(0, l_)] σ (finQ (cx w0) Tryz.f17 n R)
def n33 : Prop :=
  Z (cAt code 33) 33 [(8, out), (35, t35), (36, (.pv (.int .i64 t36))), (37, (.pv (.int .i64 t37)))] σ (q33 Z w0 n R)
def b34 : Prop :=
  pcodeX (cx w0) 62 lv n cuts Z (cAt code 34) 34 [(8, out), (35, t35), (36, (.pv (.int .i64 t36))), (37, (.pv (.int .i64 t37)))] σ (q34 Z w0 n R)
def n58 : Prop :=
  Z (cAt code 58) 58 [(8, out)] σ (finQ (cx w0) Tryz.f17 n R)
def b58 : Prop :=
  pcodeX (cx w0) 62 lv n cuts Z (cAt code 58) 58 [(8, out)] σ (finQ (cx w0) Tryz.f17 n R)
def b0 : Prop :=
  pcodeX (cx w0) 62 lv n cuts Z code 0 (argsE 0 [l_]) σ (finQ (cx w0) Tryz.f17 n R)
end
variable {Z : XT} {w0 : Base} {n : Nat} {R : RT} {σ τ : Store} {l_ t15 out t35 l_' t15' out' t35' : AV} {t16 t17 t36 t37 t16' t17' t36' t37' : Int} {t32 : Bool}
theorem n6_in (h : b7 (X w0 n) w0 n R σ l_ t15 t16 t17) : n6 (X w0 n) w0 n R σ l_ t15 t16 t17 := xr_round (cxOK w0) (S := cuts) (by kernel_rfl : cAt code 6 = .loop (cAt code 7)) @h
theorem n6_weak (e : EWeak (cx w0) n [(0, l_), (15, t15), (16, (.pv (.int .i64 t16))), (17, (.pv (.int .i64 t17)))] σ [(0, l_'), (15, t15'), (16, (.pv (.int .i64 t16'))), (17, (.pv (.int .i64 t17')))] τ) (h : n6 (X w0 n) w0 n R τ l_' t15' t16' t17') : n6 (X w0 n) w0 n R σ l_ t15 t16 t17 := xr_weak (L := lv) (k := 6) (by kernel_rfl : cAt code 6 = .loop (cAt code 7)) @e @h
theorem b7_eq : b7 Z w0 n R σ l_ t15 t16 t17 = (
  condB (decide ((t17 : Int) < t16)) (opt (aIndexAddr σ tabS ti22.td t15 t17) fun t19 => opt (aLoad σ ti31 t19) fun t20 => opt (aStore (σ ++ [.cells 31 (AV.ofValue ti31.zero).cells]) ti31 (.ptr (List.length σ) 0) t20) fun σ' => opt (aLoad σ' ti31 (.ptr (List.length σ) 0)) fun t22 => SCalls (cx w0) stream_named.id [t22] σ' fun r σ'_1 => isTup r fun vs => opt ((vs)[0]?) fun t24 => isS t24 fun t24_1 => isTup r fun vs_1 => opt ((vs_1)[1]?) fun t25 => isB t25 fun t25_1 => condB (!t25_1) (n21 Z w0 n R σ'_1 l_ t15 t16 t17 true) (opt (aFieldAddr tabS ti31.td (.ptr (List.length σ) 0) 0) fun t29 => opt (aLoad σ'_1 ti3 t29) fun t30 => isI .i64 t30 fun t30_1 => n21 Z w0 n R σ'_1 l_ t15 t16 t17 ((t30_1 : Int) == 4))) (n27 Z w0 n R σ l_)) := by kernel_rfl
theorem b21_eq : b21 Z w0 n R σ l_ t15 t16 t17 t32 = (
  condB t32 (opt (aMakeInterface 61 (.pv (.int .i64 1))) fun t33 => FinK (cx w0) n (.tup [.nilsl, t33]) σ R) (n6 Z w0 n R σ l_ t15 t16 (IntKind.wrap .i64 (t17 + 1)))) := by kernel_rfl
theorem n21_in (h : b21 (X w0 n) w0 n R σ l_ t15 t16 t17 t32) : n21 (X w0 n) w0 n R σ l_ t15 t16 t17 t32 := xr_in (S := cuts) (by kernel_rfl) @h
theorem b27_eq : b27 Z w0 n R σ l_ = (
  opt (aLen ti22.td l_) fun t36 => isI .i64 t36 fun t36_1 => n33 Z w0 n R σ .nilsl l_ t36_1 0) := by kernel_rfl
theorem n27_in (h : b27 (X w0 n) w0 n R σ l_) : n27 (X w0 n) w0 n R σ l_ := xr_in (S := cuts) (by kernel_rfl) @h
theorem n33_in (h : b34 (X w0 n) w0 n R σ out t35 t36 t37) : n33 (X w0 n) w0 n R σ out t35 t36 t37 := xr_round (cxOK w0) (S := cuts) (by kernel_rfl : cAt code 33 = .loop (cAt code 34)) @h
theorem n33_weak (e : EWeak (cx w0) n [(8, out), (35, t35), (36, (.pv (.int .i64 t36))), (37, (.pv (.int .i64 t37)))] σ [(8, out'), (35, t35'), (36, (.pv (.int .i64 t36'))), (37, (.pv (.int .i64 t37')))] τ) (h : n33 (X w0 n) w0 n R τ out' t35' t36' t37') : n33 (X w0 n) w0 n R σ out t35 t36 t37 := xr_weak (L := lv) (k := 33) (by kernel_rfl : cAt code 33 = .loop (cAt code 34)) @e @h
theorem b34_eq : b34 Z w0 n R σ out t35 t36 t37 = (
  condB (decide ((t37 : Int) < t36)) (opt (aIndexAddr σ tabS ti22.td t35 t37) fun t39 => opt (aLoad σ ti31 t39) fun t40 => opt (aStore (σ ++ [.cells 31 (AV.ofValue ti31.zero).cells]) ti31 (.ptr (List.length σ) 0) t40) fun σ' => opt (aLoad σ' ti31 (.ptr (List.length σ) 0)) fun t42 => SCalls (cx w0) stream_named.id [t42] σ' fun r σ'_1 => isTup r fun vs => opt ((vs)[0]?) fun t44 => isS t44 fun t44_1 => isTup r fun vs_1 => opt ((vs_1)[1]?) fun t45 => isB t45 fun t45_1 => opt (aFieldAddr tabS ti31.td (.ptr (List.length σ) 0) 4) fun t48 => opt (aLoad σ'_1 ti29 t48) fun t49 => SCalls (cx w0) stat_Of.id [(.pv (.str t44_1)), t49] σ'_1 fun r_1 σ'_2 => isTup r_1 fun vs_2 => opt ((vs_2)[0]?) fun t51 => isTup r_1 fun vs_3 => opt ((vs_3)[1]?) fun t52 => opt (aStore (σ'_2 ++ [.cells 56 (AV.ofValue ti56.zero).cells]) ti56 (.ptr (List.length σ'_2) 0) t51) fun σ'_3 => aBinK tabS 24 true .neq t52 (.pv (.raw .nilIface)) fun v => isB v fun b => condB b (FinK (cx w0) n (.tup [.nilsl, t52]) σ'_3 R) (opt (aLoad σ'_3 ti56 (.ptr (List.length σ'_2) 0)) fun t57 => opt2 (aBuildSlice σ'_3 ti56 false 1 [(0, t57)]) fun t58 σ'_4 => opt2 (aAppend σ'_4 ti56 out t58) fun t59 σ'_5 => n33 Z w0 n R σ'_5 t59 t35 t36 (IntKind.wrap .i64 (t37 + 1)))) (n58 Z w0 n R σ out)) := by kernel_rfl
theorem b58_eq : b58 Z w0 n R σ out = (
  FinK (cx w0) n (.tup [out, (.pv (.raw .nilIface))]) σ R) := by kernel_rfl
theorem n58_in (h : b58 (X w0 n) w0 n R σ out) : n58 (X w0 n) w0 n R σ out := xr_in (S := cuts) (by kernel_rfl) @h
theorem b0_eq : b0 Z w0 n R σ l_ = (
  opt (aLen ti22.td l_) fun t16 => isI .i64 t16 fun t16_1 => n6 Z w0 n R σ l_ l_ t16_1 0) := by kernel_rfl
theorem calls (h : b0 (X w0 (List.length σ)) w0 (List.length σ) R σ l_) : SCalls (cx w0) stream_Counts.id [l_] σ R :=
  xr_enter (cxOK w0) (x := fe) (S := cuts) (stream_Counts.ok w0) (by kernel_rfl) @h
attribute [irreducible] n6 b7 n21 b21 n27 b27 n33 b34 n58 b58 b0
end stream_Counts
namespace hunks_Reverse
def lvs : List (List Nat) := [[0], [0], [1, 2], [1, 2], [1, 2, 3], [1, 2, 3], [1, 2, 3, 4, 5], [1, 2, 3, 4, 5], [1, 2, 3, 4, 5, 6], [1, 2, 3, 4, 5, 6], [1, 2, 3, 4, 5, 6], [2, 3, 4, 5, 6, 22, 23, 24], [2, 3, 4, 5, 6, 22, 23, 24], [2, 3, 4, 5, 6, 22, 23, 24], [2, 3, 4, 5, 6, 22, 23, 24], [2, 3, 4, 5, 6, 22, 23, 24, 25], [2, 3, 4, 5, 6, 22, 23, 24, 25], [2, 3, 4, 5, 6, 22, 23, 24], [2, 3, 6], [2, 3, 4, 5, 6, 22, 23, 24], [2, 3, 4, 5, 6, 22, 23, 24], [2, 3, 4, 5, 6, 22, 23, 24], [2, 3, 4, 5, 6, 22, 23, 24], [2, 3, 4, 5, 6, 8, 22, 23, 24], [2, 3, 4, 5, 6, 8, 22, 23, 24], [2, 3, 4, 5, 6, 8, 22, 23, 24, 29], [2, 3, 4, 5, 6, 8, 22, 23, 24, 29], [2, 3, 4, 5, 6, 8, 22, 23, 24, 29], [2, 3, 4, 5, 6, 8, 22, 23, 24, 29, 38], [2, 3, 4, 5, 6, 8, 22, 23, 24], [2, 3, 4, 5, 6, 8, 22, 23, 24, 29], [2, 3, 4, 5, 6, 8, 22, 23, 24, 29], [2, 3, 4, 5, 6, 8, 22, 23, 24, 46], [2, 3, 4, 5, 6, 8, 22, 23, 24], [2, 3, 4, 5, 6, 8, 22, 23, 24], [2, 3, 4, 5, 6, 8, 22, 23, 24], [2, 3, 4, 5, 6, 8, 22, 23, 24], [2, 3, 4, 5, 6, 22, 23, 24], [2, 3, 6], [2, 3, 6], [2, 3], [2, 3], [2]]
def lv : Nat → List Nat := lvOf lvs
noncomputable def code : Code := bodyOf Tryz.f33
noncomputable def fe : FE := ⟨Tryz.f33, code, lv⟩
def cuts : List Nat := [13, 37, 38]
abbrev X (w0 : Base) (n : Nat) : XT := xr (cx w0) 58 lv n
theorem ok (w0 : Base) : FOK (cx w0) hunks_Reverse.id fe := ⟨Tryz.func33, by kernel_rfl, by kernel_rfl⟩
section
variable (Z : XT) (w0 : Base) (n : Nat) (R : RT) (σ : Store) (t2 out old fresh end_ t22 : AV) (t23 t24 : Int) (h_ : AV)
def q9 : QT := thenQ (fun env σ => Z (cAt code 38) 38 (prune (lv 38) env) σ (finQ (cx w0) Tryz.f33 n R)) (finQ (cx w0) Tryz.f33 n R)
def q12 : QT := blockQ 0 (q9 Z w0 n R)
def q13 : QT := thenQ (fun env σ => Z (cAt code 12) 12 (prune (lv 12) env) σ (q12 Z w0 n R)) (q12 Z w0 n R)
def n12 : Prop :=
  Z (cAt code 12) 12 [(2, t2), (3, out), (4, old), (5, fresh), (6, end_), (22, t22), (23, (.pv (.int .i64 t23))), (24, (.pv (.int .i64 t24)))] σ (q12 Z w0 n R)
def b13 : Prop :=
  pcodeX (cx w0) 58 lv n cuts Z (cAt code 13) 13 [(2, t2), (3, out), (4, old), (5, fresh), (6, end_), (22, t22), (23, (.pv (.int .i64 t23))), (24, (.pv (.int .i64 t24)))] σ (q13 Z w0 n R)
def n37 : Prop :=
  Z (cAt code 37) 37 [(2, t2), (3, out), (4, old), (5, fresh), (6, end_), (22, t22), (23, (.pv (.int .i64 t23))), (24, (.pv (.int .i64 t24)))] σ (q13 Z w0 n R)
def b37 : Prop :=
  pcodeX (cx w0) 58 lv n cuts Z (cAt code 37) 37 [(2, t2), (3, out), (4, old), (5, fresh), (6, end_), (22, t22), (23, (.pv (.int .i64 t23))), (24, (.pv (.int .i64 t24)))] σ (q13 Z w0 n R)
def n38 : Prop :=
  Z (cAt code 38) 38 [(2, t2), (3, out), (6, end_)] σ (finQ (cx w0) Tryz.f33 n R)
def b38 : Prop :=
  pcodeX (cx w0) 58 lv n cuts Z (cAt code 38) 38 [(2, t2), (3, out), (6, end_)] σ (finQ (cx w0) Tryz.f33 n R)
def b0 : Prop :=
  pcodeX (cx w0) 58 lv n cuts Z code 0 (argsE 0 [h_]) σ (finQ (cx w0) Tryz.f33 n R)
end
variable {Z : XT} {w0 : Base} {n : Nat} {R : RT} {σ τ : Store} {t2 out old fresh end_ t22 h_ t2' out' old' fresh' end_' t22' : AV} {t23 t24 t23' t24' : Int}
theorem n12_in (h : b13 (X w0 n) w0 n R σ t2 out old fresh end_ t22 t23 t24) : n12 (X w0 n) w0 n R σ t2 out old fresh end_ t22 t23 t24 := xr_round (cxOK w0) (S := cuts) (by kernel_rfl : cAt code 12 = .loop (cAt code 13)) @h
theorem n12_weak (e : EWeak (cx w0) n [(2, t2), (3, out), (4, old), (5, fresh), (6, end_), (22, t22), (23, (.pv (.int .i64 t23))), (24, (.pv (.int .i64 t24)))] σ [(2, t2'), (3, out'), (4, old'), (5, fresh'), (6, end_'), (22, t22'), (23, (.pv (.int .i64 t23'))), (24, (.pv (.int .i64 t24')))] τ) (h : n12 (X w0 n) w0 n R τ t2' out' old' fresh' end_' t22' t23' t24') : n12 (X w0 n) w0 n R σ t2 out old fresh end_ t22 t23 t24 := xr_weak (L := lv) (k := 12) (by kernel_rfl : cAt code 12 = .loop (cAt code 13)) @e @h
theorem b13_eq : b13 Z w0 n R σ t2 out old fresh end_ t22 t23 t24 = (
  condB (decide ((t24 : Int) < t23)) (opt (aIndexAddr σ tabS ti43.td t22 t24) fun t26 => opt (aLoad σ ti79 t26) fun t27 => opt (aStore (σ ++ [.cells 79 (AV.ofValue ti79.zero).cells]) ti79 (.ptr (List.length σ) 0) t27) fun σ' => opt (aFieldAddr tabS ti79.td (.ptr (List.length σ) 0) 0) fun t28 => opt (aLoad σ' ti3 t28) fun t29 => isI .i64 t29 fun t29_1 => condB ((t29_1 : Int) == 2) (opt (aLoad σ' ti43 fresh) fun t40 => opt (aFieldAddr tabS ti79.td (.ptr (List.length σ) 0) 1) fun t41 => opt (aLoad σ' ti9 t41) fun t42 => isS t42 fun t42_1 => opt (aBuild tabS ti79 [(0, (.pv (.int .i64 3))), (1, (.pv (.str t42_1)))]) fun t43 => opt2 (aBuildSlice σ' ti79 false 1 [(0, t43)]) fun t44 σ'_1 => opt2 (aAppend σ'_1 ti79 t40 t44) fun t45 σ'_2 => opt (aStore σ'_2 ti43 fresh t45) fun σ'_3 => n37 Z w0 n R σ'_3 t2 out old fresh end_ t22 t23 t24) (condB ((t29_1 : Int) == 3) (opt (aLoad σ' ti43 old) fun t48 => opt (aFieldAddr tabS ti79.td (.ptr (List.length σ) 0) 1) fun t49 => opt (aLoad σ' ti9 t49) fun t50 => isS t50 fun t50_1 => opt (aBuild tabS ti79 [(0, (.pv (.int .i64 2))), (1, (.pv (.str t50_1)))]) fun t51 => opt2 (aBuildSlice σ' ti79 false 1 [(0, t51)]) fun t52 σ'_1 => opt2 (aAppend σ'_1 ti79 t48 t52) fun t53 σ'_2 => opt (aStore σ'_2 ti43 old t53) fun σ'_3 => n37 Z w0 n R σ'_3 t2 out old fresh end_ t22 t23 t24) (opt (calleeV end_ []) fun p => SCalls (cx w0) (Prod.fst p) (Prod.snd p) σ' fun r σ'_1 => opt (aFieldAddr tabS ti46.td out 5) fun t32 => opt (aLoad σ'_1 ti43 t32) fun t33 => opt (aLoad σ'_1 ti79 (.ptr (List.length σ) 0)) fun t34 => opt2 (aBuildSlice σ'_1 ti79 false 1 [(0, t34)]) fun t35 σ'_2 => opt2 (aAppend σ'_2 ti79 t33 t35) fun t36 σ'_3 => opt (aFieldAddr tabS ti46.td out 5) fun t37 => opt (aStore σ'_3 ti43 t37 t36) fun σ'_4 => n37 Z w0 n R σ'_4 t2 out old fresh end_ t22 t23 t24))) (n38 Z w0 n R σ t2 out end_)) := by kernel_rfl
theorem b37_eq : b37 Z w0 n R σ t2 out old fresh end_ t22 t23 t24 = (
  n12 Z w0 n R σ t2 out old fresh end_ t22 t23 (IntKind.wrap .i64 (t24 + 1))) := by kernel_rfl
theorem n37_in (h : b37 (X w0 n) w0 n R σ t2 out old fresh end_ t22 t23 t24) : n37 (X w0 n) w0 n R σ t2 out old fresh end_ t22 t23 t24 := xr_in (S := cuts) (by kernel_rfl) @h
theorem b38_eq : b38 Z w0 n R σ t2 out end_ = (
  opt (calleeV end_ []) fun p => SCalls (cx w0) (Prod.fst p) (Prod.snd p) σ fun r σ' => opt (aLoad σ' ti46 out) fun t57 => opt (aStore σ' ti46 t2 t57) fun σ'_1 => opt (aLoad σ'_1 ti46 t2) fun v => FinK (cx w0) n v σ'_1 R) := by kernel_rfl
theorem n38_in (h : b38 (X w0 n) w0 n R σ t2 out end_) : n38 (X w0 n) w0 n R σ t2 out end_ := xr_in (S := cuts) (by kernel_rfl) @h
theorem b0_eq : b0 Z w0 n R σ h_ = (
  ((AV.cells h_).all AV.one = true ∧ (opt (aFieldAddr tabS ti46.td (.ptr (List.length σ) 0) 2) fun t9 => opt (aLoad ((σ ++ [.cells 46 (AV.cells h_)]) ++ [.cells 46 (AV.ofValue ti46.zero).cells]) ti3 t9) fun t10 => isI .i64 t10 fun t10_1 => opt (aFieldAddr tabS ti46.td (.ptr (List.length σ) 0) 3) fun t11 => opt (aLoad ((σ ++ [.cells 46 (AV.cells h_)]) ++ [.cells 46 (AV.ofValue ti46.zero).cells]) ti3 t11) fun t12 => isI .i64 t12 fun t12_1 => opt (aFieldAddr tabS ti46.td (.ptr (List.length σ) 0) 0) fun t13 => opt (aLoad ((σ ++ [.cells 46 (AV.cells h_)]) ++ [.cells 46 (AV.ofValue ti46.zero).cells]) ti3 t13) fun t14 => isI .i64 t14 fun t14_1 => opt (aFieldAddr tabS ti46.td (.ptr (List.length σ) 0) 1) fun t15 => opt (aLoad ((σ ++ [.cells 46 (AV.cells h_)]) ++ [.cells 46 (AV.ofValue ti46.zero).cells]) ti3 t15) fun t16 => isI .i64 t16 fun t16_1 => opt (aFieldAddr tabS ti46.td (.ptr (List.length σ) 0) 4) fun t17 => opt (aLoad ((σ ++ [.cells 46 (AV.cells h_)]) ++ [.cells 46 (AV.ofValue ti46.zero).cells]) ti9 t17) fun t18 => isS t18 fun t18_1 => opt (aBuild tabS ti46 [(0, (.pv (.int .i64 t10_1))), (1, (.pv (.int .i64 t12_1))), (2, (.pv (.int .i64 t14_1))), (3, (.pv (.int .i64 t16_1))), (4, (.pv (.str t18_1)))]) fun t19 => opt (aStore (((σ ++ [.cells 46 (AV.cells h_)]) ++ [.cells 46 (AV.ofValue ti46.zero).cells]) ++ [.cells 46 (AV.ofValue ti46.zero).cells]) ti46 (.ptr (List.length ((σ ++ [.cells 46 (AV.cells h_)]) ++ [.cells 46 (AV.ofValue ti46.zero).cells])) 0) t19) fun σ' => opt (aFieldAddr tabS ti46.td (.ptr (List.length σ) 0) 5) fun t21 => opt (aLoad ((σ' ++ [.cells 43 (AV.ofValue ti43.zero).cells]) ++ [.cells 43 (AV.ofValue ti43.zero).cells]) ti43 t21) fun t22 => opt (aLen ti43.td t22) fun t23 => isI .i64 t23 fun t23_1 => n12 Z w0 n R ((σ' ++ [.cells 43 (AV.ofValue ti43.zero).cells]) ++ [.cells 43 (AV.ofValue ti43.zero).cells]) (.ptr (List.length (σ ++ [.cells 46 (AV.cells h_)])) 0) (.ptr (List.length ((σ ++ [.cells 46 (AV.cells h_)]) ++ [.cells 46 (AV.ofValue ti46.zero).cells])) 0) (.ptr (List.length σ') 0) (.ptr (List.length (σ' ++ [.cells 43 (AV.ofValue ti43.zero).cells])) 0) (.func (.func 75) [] [(.ptr (List.length ((σ ++ [.cells 46 (AV.cells h_)]) ++ [.cells 46 (AV.ofValue ti46.zero).cells])) 0), (.ptr (List.length σ') 0), (.ptr (List.length (σ' ++ [.cells 43 (AV.ofValue ti43.zero).cells])) 0)]) t22 t23_1 0))) := by kernel_rfl
theorem calls (h : b0 (X w0 (List.length σ)) w0 (List.length σ) R σ h_) : SCalls (cx w0) hunks_Reverse.id [h_] σ R :=
  xr_enter (cxOK w0) (x := fe) (S := cuts) (hunks_Reverse.ok w0) (by kernel_rfl) @h
attribute [irreducible] n12 b13 n37 b37 n38 b38 b0
end hunks_Reverse
namespace hunks_Reverse_1
def lvs : List (List Nat) := [[0, 1, 2], [0, 1, 2], [1, 2]]
def lv : Nat → List Nat := lvOf lvs
noncomputable def code : Code := bodyOf Tryz.f75
noncomputable def fe : FE := ⟨Tryz.f75, code, lv⟩
def cuts : List Nat := []
abbrev X (w0 : Base) (n : Nat) : XT := xr (cx w0) 10 lv n
theorem ok (w0 : Base) : FOK (cx w0) hunks_Reverse_1.id fe := ⟨Tryz.func75, by kernel_rfl, by kernel_rfl⟩
section
variable (Z : XT) (w0 : Base) (n : Nat) (R : RT) (σ : Store) (t0 t1 t2 : AV)
def b0 : Prop :=
  pcodeX (cx w0) 10 lv n cuts Z code 0 (argsE 0 [t0, t1, t2]) σ (finQ (cx w0) Tryz.f75 n R)
end
variable {Z : XT} {w0 : Base} {n : Nat} {R : RT} {σ τ : Store} {t0 t1 t2 : AV}
theorem b0_eq : b0 Z w0 n R σ t0 t1 t2 = (
  opt (aFieldAddr tabS ti46.td t0 5) fun t3 => opt (aLoad σ ti43 t3) fun t4 => opt (aLoad σ ti43 t1) fun t5 => opt (aLoad σ ti43 t2) fun t7 => opt2 (aAppend σ ti79 t4 t5) fun t6 σ' => ((opt (aLoad σ' ti43 t2) fun t7_1 => ((t7_1 : AV) = t7)) ∧ (opt2 (aAppend σ' ti79 t6 t7) fun t8 σ'_1 => opt (aFieldAddr tabS ti46.td t0 5) fun t9 => opt (aStore σ'_1 ti43 t9 t8) fun σ'_2 => opt (aStore σ'_2 ti43 t1 .nilsl) fun σ'_3 => opt (aStore σ'_3 ti43 t2 .nilsl) fun σ'_4 => FinK (cx w0) n (.tup []) σ'_4 R))) := by kernel_rfl
theorem calls (h : b0 (X w0 (List.length σ)) w0 (List.length σ) R σ t0 t1 t2) : SCalls (cx w0) hunks_Reverse_1.id [t0, t1, t2] σ R :=
  xr_enter (cxOK w0) (x := fe) (S := cuts) (hunks_Reverse_1.ok w0) (by kernel_rfl) @h
attribute [irreducible] b0
end hunks_Reverse_1
end Go.Sv
