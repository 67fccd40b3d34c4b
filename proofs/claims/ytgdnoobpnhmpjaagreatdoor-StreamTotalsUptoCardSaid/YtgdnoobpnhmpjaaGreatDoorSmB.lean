/- What the code of Go functions comes to over abstract stores, piece by piece; each equation by the kernel. Printed by a program of this session. -/
import Derived.Test.YtgdnoobpnhmpjaaGreatDoorSvT
import Derived.KernelRfl
set_option linter.unusedVariables false
set_option maxRecDepth 100000
namespace Go.Sv
open Go Go.Proofs
namespace stat_Of
def lvs : List (List Nat) := [[0, 1], [0, 1], [0, 1, 4], [0, 1, 4], [1, 4, 6], [1, 4, 6], [1, 4, 6], [4, 6, 14, 15, 16], [4, 6, 14, 15, 16], [4, 6, 14, 15, 16], [4, 6, 14, 15, 16], [4, 6, 14, 15, 16, 17], [4, 6, 14, 15, 16, 17], [4, 6, 14, 15, 16], [4, 6], [4, 6, 14, 15, 16], [4, 6, 14, 15, 16], [4, 6, 14, 15, 16], [4, 6, 14, 15, 16], [4, 6, 8, 14, 15, 16], [4, 6, 8, 14, 15, 16], [4, 6, 8, 14, 15, 16], [4, 6, 8, 9, 14, 15, 16], [4, 6, 8, 9, 14, 15, 16], [4, 6, 8, 9, 14, 15, 16, 23], [4, 9], [4, 9], [4, 5], [4, 6, 8, 14, 15, 16], [4, 6, 8, 14, 15, 16], [4, 6, 8, 14, 15, 16], [4, 6, 14, 15, 16, 27, 28, 29], [4, 6, 14, 15, 16, 27, 28, 29], [4, 6, 14, 15, 16, 27, 28, 29], [4, 6, 14, 15, 16, 27, 28, 29], [4, 6, 14, 15, 16, 27, 28, 29, 30], [4, 6, 14, 15, 16, 27, 28, 29, 30], [4, 6, 14, 15, 16, 27, 28, 29], [4, 6, 14, 15, 16], [4, 6, 14, 15, 16, 27, 28, 29], [4, 6, 14, 15, 16, 27, 28, 29], [4, 6, 14, 15, 16, 27, 28, 29], [4, 6, 14, 15, 16, 27, 28, 29], [4, 6, 11, 14, 15, 16, 27, 28, 29], [4, 6, 11, 14, 15, 16, 27, 28, 29], [4, 6, 14, 15, 16, 27, 28, 29, 34], [4, 6, 14, 15, 16, 27, 28, 29, 34], [4, 6, 14, 15, 16, 27, 28, 29, 34], [4, 6, 14, 15, 16, 27, 28, 29, 34, 35], [4, 6, 14, 15, 16, 27, 28, 29], [4, 6, 14, 15, 16, 27, 28, 29, 34], [4, 6, 14, 15, 16, 27, 28, 29, 34], [4, 6, 14, 15, 16, 27, 28, 29, 41], [4, 6, 14, 15, 16, 27, 28, 29], [4, 6, 14, 15, 16, 27, 28, 29], [4, 6, 14, 15, 16, 27, 28, 29], [4, 6, 14, 15, 16], [4, 6], [4, 6], [4, 6], [4, 6, 56], [4], [4], [4, 5], [4, 6], [4, 6], [4, 6], [4, 5]]
def lv : Nat → List Nat := lvOf lvs
noncomputable def code : Code := bodyOf Tryz.f38
noncomputable def fe : FE := ⟨Tryz.f38, code, lv⟩
def cuts : List Nat := [9, 33, 55, 56, 57, 60]
abbrev X (w0 : Base) (n : Nat) : XT := xr (cx w0) 60 lv n
theorem ok (w0 : Base) : FOK (cx w0) stat_Of.id fe := ⟨Tryz.func38, by kernel_rfl, by kernel_rfl⟩
section
variable (Z : XT) (w0 : Base) (n : Nat) (R : RT) (σ : Store) (t4 c t14 : AV) (t15 t16 : Int) (t27 : AV) (t28 t29 : Int) (t56 : Bool) (name : List UInt8) (l_ : AV)
def q5 : QT := thenQ (fun env σ => Z (cAt code 57) 57 (prune (lv 57) env) σ (finQ (cx w0) Tryz.f38 n R)) (finQ (cx w0) Tryz.f38 n R)
def q8 : QT := blockQ 0 (q5 Z w0 n R)
def q9 : QT := thenQ (fun env σ => Z (cAt code 8) 8 (prune (lv 8) env) σ (q8 Z w0 n R)) (q8 Z w0 n R)
def q16 : QT := thenQ (fun env σ => Z (cAt code 56) 56 (prune (lv 56) env) σ (q9 Z w0 n R)) (q9 Z w0 n R)
def q17 : QT := blockQ 1 (q16 Z w0 n R)
def q32 : QT := blockQ 2 (q17 Z w0 n R)
def q33 : QT := thenQ (fun env σ => Z (cAt code 32) 32 (prune (lv 32) env) σ (q32 Z w0 n R)) (q32 Z w0 n R)
def q58 : QT := thenQ (fun env σ => pcodeX (cx w0) 60 lv n cuts Z (cAt code 65) 65 (prune (lv 65) env) σ (finQ (cx w0) Tryz.f38 n R)) (finQ (cx w0) Tryz.f38 n R)
def n8 : Prop :=
  Z (cAt code 8) 8 [(4, t4), (6, c), (14, t14), (15, (.pv (.int .i64 t15))), (16, (.pv (.int .i64 t16)))] σ (q8 Z w0 n R)
def b9 : Prop :=
  pcodeX (cx w0) 60 lv n cuts Z (cAt code 9) 9 [(4, t4), (6, c), (14, t14), (15, (.pv (.int .i64 t15))), (16, (.pv (.int .i64 t16)))] σ (q9 Z w0 n R)
def n32 : Prop :=
  Z (cAt code 32) 32 [(4, t4), (6, c), (14, t14), (15, (.pv (.int .i64 t15))), (16, (.pv (.int .i64 t16))), (27, t27), (28, (.pv (.int .i64 t28))), (29, (.pv (.int .i64 t29)))] σ (q32 Z w0 n R)
def b33 : Prop :=
  pcodeX (cx w0) 60 lv n cuts Z (cAt code 33) 33 [(4, t4), (6, c), (14, t14), (15, (.pv (.int .i64 t15))), (16, (.pv (.int .i64 t16))), (27, t27), (28, (.pv (.int .i64 t28))), (29, (.pv (.int .i64 t29)))] σ (q33 Z w0 n R)
def n55 : Prop :=
  Z (cAt code 55) 55 [(4, t4), (6, c), (14, t14), (15, (.pv (.int .i64 t15))), (16, (.pv (.int .i64 t16))), (27, t27), (28, (.pv (.int .i64 t28))), (29, (.pv (.int .i64 t29)))] σ (q33 Z w0 n R)
def b55 : Prop :=
  pcodeX (cx w0) 60 lv n cuts Z (cAt code 55) 55 [(4, t4), (6, c), (14, t14), (15, (.pv (.int .i64 t15))), (16, (.pv (.int .i64 t16))), (27, t27), (28, (.pv (.int .i64 t28))), (29, (.pv (.int .i64 t29)))] σ (q33 Z w0 n R)
def n56 : Prop :=
  Z (cAt code 56) 56 [(4, t4), (6, c), (14, t14), (15, (.pv (.int .i64 t15))), (16, (.pv (.int .i64 t16)))] σ (q9 Z w0 n R)
def b56 : Prop :=
  pcodeX (cx w0) 60 lv n cuts Z (cAt code 56) 56 [(4, t4), (6, c), (14, t14), (15, (.pv (.int .i64 t15))), (16, (.pv (.int .i64 t16)))] σ (q9 Z w0 n R)
def n57 : Prop :=
  Z (cAt code 57) 57 [(4, t4), (6, c)] σ (finQ (cx w0) Tryz.f38 n R)
def b57 : Prop :=
  pcodeX (cx w0) 60 lv n cuts Z (cAt code 57) 57 [(4, t4), (6, c)] σ (finQ (cx w0) Tryz.f38 n R)
def n60 : Prop :=
  Z (cAt code 60) 60 [(4, t4), (6, c), (56, (.pv (.bool t56)))] σ (q58 Z w0 n R)
def b60 : Prop :=
  pcodeX (cx w0) 60 lv n cuts Z (cAt code 60) 60 [(4, t4), (6, c), (56, (.pv (.bool t56)))] σ (q58 Z w0 n R)
def b0 : Prop :=
  pcodeX (cx w0) 60 lv n cuts Z code 0 (argsE 0 [(.pv (.str name)), l_]) σ (finQ (cx w0) Tryz.f38 n R)
end
variable {Z : XT} {w0 : Base} {n : Nat} {R : RT} {σ τ : Store} {t4 c t14 t27 l_ t4' c' t14' t27' : AV} {t15 t16 t28 t29 t15' t16' t28' t29' : Int} {t56 : Bool} {name : List UInt8}
theorem n8_in (h : b9 (X w0 n) w0 n R σ t4 c t14 t15 t16) : n8 (X w0 n) w0 n R σ t4 c t14 t15 t16 := xr_round (cxOK w0) (S := cuts) (by kernel_rfl : cAt code 8 = .loop (cAt code 9)) @h
theorem n8_weak (e : EWeak (cx w0) n [(4, t4), (6, c), (14, t14), (15, (.pv (.int .i64 t15))), (16, (.pv (.int .i64 t16)))] σ [(4, t4'), (6, c'), (14, t14'), (15, (.pv (.int .i64 t15'))), (16, (.pv (.int .i64 t16')))] τ) (h : n8 (X w0 n) w0 n R τ t4' c' t14' t15' t16') : n8 (X w0 n) w0 n R σ t4 c t14 t15 t16 := xr_weak (L := lv) (k := 8) (by kernel_rfl : cAt code 8 = .loop (cAt code 9)) @e @h
theorem b9_eq : b9 Z w0 n R σ t4 c t14 t15 t16 = (
  condB (decide ((t16 : Int) < t15)) (opt (aIndexAddr σ tabS ti29.td t14 t16) fun t18 => opt (aLoad σ ti46 t18) fun t19 => opt (aStore (σ ++ [.cells 46 (AV.ofValue ti46.zero).cells]) ti46 (.ptr (List.length σ) 0) t19) fun σ' => opt (aLoad σ' ti46 (.ptr (List.length σ) 0)) fun t20 => SCalls (cx w0) hunks_Valid.id [t20] σ' fun r σ'_1 => aBinK tabS 24 true .neq r (.pv (.raw .nilIface)) fun v => isB v fun b => condB b (opt (aBuild tabS ti56 []) fun t24 => opt (aStore σ'_1 ti56 t4 t24) fun σ'_2 => opt (aLoad σ'_2 ti56 t4) fun v_1 => FinK (cx w0) n (.tup [v_1, r]) σ'_2 R) (opt (aFieldAddr tabS ti46.td (.ptr (List.length σ) 0) 5) fun t26 => opt (aLoad σ'_1 ti43 t26) fun t27 => opt (aLen ti43.td t27) fun t28 => isI .i64 t28 fun t28_1 => n32 Z w0 n R σ'_1 t4 c t14 t15 t16 t27 t28_1 0)) (n57 Z w0 n R σ t4 c)) := by kernel_rfl
theorem n32_in (h : b33 (X w0 n) w0 n R σ t4 c t14 t15 t16 t27 t28 t29) : n32 (X w0 n) w0 n R σ t4 c t14 t15 t16 t27 t28 t29 := xr_round (cxOK w0) (S := cuts) (by kernel_rfl : cAt code 32 = .loop (cAt code 33)) @h
theorem n32_weak (e : EWeak (cx w0) n [(4, t4), (6, c), (14, t14), (15, (.pv (.int .i64 t15))), (16, (.pv (.int .i64 t16))), (27, t27), (28, (.pv (.int .i64 t28))), (29, (.pv (.int .i64 t29)))] σ [(4, t4'), (6, c'), (14, t14'), (15, (.pv (.int .i64 t15'))), (16, (.pv (.int .i64 t16'))), (27, t27'), (28, (.pv (.int .i64 t28'))), (29, (.pv (.int .i64 t29')))] τ) (h : n32 (X w0 n) w0 n R τ t4' c' t14' t15' t16' t27' t28' t29') : n32 (X w0 n) w0 n R σ t4 c t14 t15 t16 t27 t28 t29 := xr_weak (L := lv) (k := 32) (by kernel_rfl : cAt code 32 = .loop (cAt code 33)) @e @h
theorem b33_eq : b33 Z w0 n R σ t4 c t14 t15 t16 t27 t28 t29 = (
  condB (decide ((t29 : Int) < t28)) (opt (aIndexAddr σ tabS ti43.td t27 t29) fun t31 => opt (aLoad σ ti79 t31) fun t32 => opt (aStore (σ ++ [.cells 79 (AV.ofValue ti79.zero).cells]) ti79 (.ptr (List.length σ) 0) t32) fun σ' => opt (aFieldAddr tabS ti79.td (.ptr (List.length σ) 0) 0) fun t33 => opt (aLoad σ' ti3 t33) fun t34 => isI .i64 t34 fun t34_1 => condB ((t34_1 : Int) == 3) (opt (aFieldAddr tabS ti56.td c 1) fun t37 => opt (aLoad σ' ti3 t37) fun t38 => isI .i64 t38 fun t38_1 => opt (aFieldAddr tabS ti56.td c 1) fun t40 => opt (aStore σ' ti3 t40 (.pv (.int .i64 (IntKind.wrap .i64 (t38_1 + 1))))) fun σ'_1 => n55 Z w0 n R σ'_1 t4 c t14 t15 t16 t27 t28 t29) (condB ((t34_1 : Int) == 2) (opt (aFieldAddr tabS ti56.td c 2) fun t43 => opt (aLoad σ' ti3 t43) fun t44 => isI .i64 t44 fun t44_1 => opt (aFieldAddr tabS ti56.td c 2) fun t46 => opt (aStore σ' ti3 t46 (.pv (.int .i64 (IntKind.wrap .i64 (t44_1 + 1))))) fun σ'_1 => n55 Z w0 n R σ'_1 t4 c t14 t15 t16 t27 t28 t29) (n55 Z w0 n R σ' t4 c t14 t15 t16 t27 t28 t29))) (n56 Z w0 n R σ t4 c t14 t15 t16)) := by kernel_rfl
theorem b55_eq : b55 Z w0 n R σ t4 c t14 t15 t16 t27 t28 t29 = (
  n32 Z w0 n R σ t4 c t14 t15 t16 t27 t28 (IntKind.wrap .i64 (t29 + 1))) := by kernel_rfl
theorem n55_in (h : b55 (X w0 n) w0 n R σ t4 c t14 t15 t16 t27 t28 t29) : n55 (X w0 n) w0 n R σ t4 c t14 t15 t16 t27 t28 t29 := xr_in (S := cuts) (by kernel_rfl) @h
theorem b56_eq : b56 Z w0 n R σ t4 c t14 t15 t16 = (
  n8 Z w0 n R σ t4 c t14 t15 (IntKind.wrap .i64 (t16 + 1))) := by kernel_rfl
theorem n56_in (h : b56 (X w0 n) w0 n R σ t4 c t14 t15 t16) : n56 (X w0 n) w0 n R σ t4 c t14 t15 t16 := xr_in (S := cuts) (by kernel_rfl) @h
theorem b57_eq : b57 Z w0 n R σ t4 c = (
  opt (aFieldAddr tabS ti56.td c 1) fun t49 => opt (aLoad σ ti3 t49) fun t50 => isI .i64 t50 fun t50_1 => condB (decide ((t50_1 : Int) > 2147483647)) (n60 Z w0 n R σ t4 c true) (opt (aFieldAddr tabS ti56.td c 2) fun t53 => opt (aLoad σ ti3 t53) fun t54 => isI .i64 t54 fun t54_1 => n60 Z w0 n R σ t4 c (decide ((t54_1 : Int) > 2147483647)))) := by kernel_rfl
theorem n57_in (h : b57 (X w0 n) w0 n R σ t4 c) : n57 (X w0 n) w0 n R σ t4 c := xr_in (S := cuts) (by kernel_rfl) @h
theorem b60_eq : b60 Z w0 n R σ t4 c t56 = (
  condB t56 (opt (aBuild tabS ti56 []) fun t57 => opt (aMakeInterface 61 (.pv (.int .i64 2))) fun t58 => opt (aStore σ ti56 t4 t57) fun σ' => opt (aLoad σ' ti56 t4) fun v => FinK (cx w0) n (.tup [v, t58]) σ' R) (opt (aLoad σ ti56 c) fun t59 => opt (aStore σ ti56 t4 t59) fun σ' => opt (aLoad σ' ti56 t4) fun v => FinK (cx w0) n (.tup [v, (.pv (.raw .nilIface))]) σ' R)) := by kernel_rfl
theorem n60_in (h : b60 (X w0 n) w0 n R σ t4 c t56) : n60 (X w0 n) w0 n R σ t4 c t56 := xr_in (S := cuts) (by kernel_rfl) @h
theorem b0_eq : b0 Z w0 n R σ name l_ = (
  opt (aBuild tabS ti56 [(0, (.pv (.str name)))]) fun t13 => opt (aStore ((σ ++ [.cells 56 (AV.ofValue ti56.zero).cells]) ++ [.cells 56 (AV.ofValue ti56.zero).cells]) ti56 (.ptr (List.length (σ ++ [.cells 56 (AV.ofValue ti56.zero).cells])) 0) t13) fun σ' => opt (aLen ti29.td l_) fun t15 => isI .i64 t15 fun t15_1 => n8 Z w0 n R σ' (.ptr (List.length σ) 0) (.ptr (List.length (σ ++ [.cells 56 (AV.ofValue ti56.zero).cells])) 0) l_ t15_1 0) := by kernel_rfl
theorem calls (h : b0 (X w0 (List.length σ)) w0 (List.length σ) R σ name l_) : SCalls (cx w0) stat_Of.id [(.pv (.str name)), l_] σ R :=
  xr_enter (cxOK w0) (x := fe) (S := cuts) (stat_Of.ok w0) (by kernel_rfl) @h
attribute [irreducible] n8 b9 n32 b33 n55 b55 n56 b56 n57 b57 n60 b60 b0
end stat_Of
namespace selvageref16_Of
def lvs : List (List Nat) := [[0, 1], [0, 1], [0, 1, 4], [0, 1, 4], [1, 4, 6], [1, 4, 6], [1, 4, 6], [1, 4, 6, 7], [1, 4, 6, 7], [1, 4, 6, 7], [1, 4, 6, 7], [1, 4, 6, 7], [1, 4, 6, 7, 15], [1, 4, 6, 7], [1, 4, 6], [1, 4, 6, 7], [1, 4, 6, 7], [1, 4, 6, 7], [1, 4, 6, 7], [1, 4, 6, 7, 23], [4], [4], [4, 5], [1, 4, 6, 7], [1, 4, 6, 7], [1, 4, 6], [1, 4, 6], [1, 4, 6], [1, 4, 6, 8], [1, 4, 6, 8], [1, 4, 6, 8], [1, 4, 6, 8], [1, 4, 6, 8], [1, 4, 6, 8, 28], [1, 4, 6, 8], [4, 6], [1, 4, 6, 8], [1, 4, 6, 8], [1, 4, 6, 8], [1, 4, 6, 8], [1, 4, 6, 8, 9], [1, 4, 6, 8, 9], [1, 4, 6, 8, 9], [1, 4, 6, 8, 9], [1, 4, 6, 8, 9], [1, 4, 6, 8, 9, 38], [1, 4, 6, 8, 9], [1, 4, 6, 8], [1, 4, 6, 8, 9], [1, 4, 6, 8, 9], [1, 4, 6, 8, 9], [1, 4, 6, 8, 9], [1, 4, 6, 8, 9, 49], [1, 4, 6, 8, 9, 49], [1, 4, 6, 8, 9, 49], [1, 4, 6, 8, 9, 49, 50], [1, 4, 6, 8, 9], [1, 4, 6, 8, 9, 49], [1, 4, 6, 8, 9, 49], [1, 4, 6, 8, 9, 56], [1, 4, 6, 8, 9], [1, 4, 6, 8, 9], [1, 4, 6, 8, 9], [1, 4, 6, 8], [4, 6], [4, 6], [4, 6], [4, 6, 69], [4], [4], [4, 5], [4, 6], [4, 6], [4, 6], [4, 5]]
def lv : Nat → List Nat := lvOf lvs
noncomputable def code : Code := bodyOf Tryz.f40
noncomputable def fe : FE := ⟨Tryz.f40, code, lv⟩
def cuts : List Nat := [9, 25, 30, 42, 62, 63, 64, 67]
abbrev X (w0 : Base) (n : Nat) : XT := xr (cx w0) 72 lv n
theorem ok (w0 : Base) : FOK (cx w0) selvageref16_Of.id fe := ⟨Tryz.func40, by kernel_rfl, by kernel_rfl⟩
section
variable (Z : XT) (w0 : Base) (n : Nat) (R : RT) (σ : Store) (name : List UInt8) (l_ t4 c : AV) (i k : Int) (t69 : Bool)
def q5 : QT := thenQ (fun env σ => Z (cAt code 25) 25 (prune (lv 25) env) σ (finQ (cx w0) Tryz.f40 n R)) (finQ (cx w0) Tryz.f40 n R)
def q8 : QT := blockQ 0 (q5 Z w0 n R)
def q9 : QT := thenQ (fun env σ => Z (cAt code 8) 8 (prune (lv 8) env) σ (q8 Z w0 n R)) (q8 Z w0 n R)
def q26 : QT := thenQ (fun env σ => Z (cAt code 64) 64 (prune (lv 64) env) σ (finQ (cx w0) Tryz.f40 n R)) (finQ (cx w0) Tryz.f40 n R)
def q29 : QT := blockQ 2 (q26 Z w0 n R)
def q30 : QT := thenQ (fun env σ => Z (cAt code 29) 29 (prune (lv 29) env) σ (q29 Z w0 n R)) (q29 Z w0 n R)
def q37 : QT := thenQ (fun env σ => Z (cAt code 63) 63 (prune (lv 63) env) σ (q30 Z w0 n R)) (q30 Z w0 n R)
def q38 : QT := blockQ 3 (q37 Z w0 n R)
def q41 : QT := blockQ 4 (q38 Z w0 n R)
def q42 : QT := thenQ (fun env σ => Z (cAt code 41) 41 (prune (lv 41) env) σ (q41 Z w0 n R)) (q41 Z w0 n R)
def q65 : QT := thenQ (fun env σ => pcodeX (cx w0) 72 lv n cuts Z (cAt code 72) 72 (prune (lv 72) env) σ (finQ (cx w0) Tryz.f40 n R)) (finQ (cx w0) Tryz.f40 n R)
def n8 : Prop :=
  Z (cAt code 8) 8 [(1, l_), (4, t4), (6, c), (7, (.pv (.int .i64 i)))] σ (q8 Z w0 n R)
def b9 : Prop :=
  pcodeX (cx w0) 72 lv n cuts Z (cAt code 9) 9 [(1, l_), (4, t4), (6, c), (7, (.pv (.int .i64 i)))] σ (q9 Z w0 n R)
def n25 : Prop :=
  Z (cAt code 25) 25 [(1, l_), (4, t4), (6, c)] σ (finQ (cx w0) Tryz.f40 n R)
def b25 : Prop :=
  pcodeX (cx w0) 72 lv n cuts Z (cAt code 25) 25 [(1, l_), (4, t4), (6, c)] σ (finQ (cx w0) Tryz.f40 n R)
def n29 : Prop :=
  Z (cAt code 29) 29 [(1, l_), (4, t4), (6, c), (8, (.pv (.int .i64 i)))] σ (q29 Z w0 n R)
def b30 : Prop :=
  pcodeX (cx w0) 72 lv n cuts Z (cAt code 30) 30 [(1, l_), (4, t4), (6, c), (8, (.pv (.int .i64 i)))] σ (q30 Z w0 n R)
def n41 : Prop :=
  Z (cAt code 41) 41 [(1, l_), (4, t4), (6, c), (8, (.pv (.int .i64 i))), (9, (.pv (.int .i64 k)))] σ (q41 Z w0 n R)
def b42 : Prop :=
  pcodeX (cx w0) 72 lv n cuts Z (cAt code 42) 42 [(1, l_), (4, t4), (6, c), (8, (.pv (.int .i64 i))), (9, (.pv (.int .i64 k)))] σ (q42 Z w0 n R)
def n62 : Prop :=
  Z (cAt code 62) 62 [(1, l_), (4, t4), (6, c), (8, (.pv (.int .i64 i))), (9, (.pv (.int .i64 k)))] σ (q42 Z w0 n R)
def b62 : Prop :=
  pcodeX (cx w0) 72 lv n cuts Z (cAt code 62) 62 [(1, l_), (4, t4), (6, c), (8, (.pv (.int .i64 i))), (9, (.pv (.int .i64 k)))] σ (q42 Z w0 n R)
def n63 : Prop :=
  Z (cAt code 63) 63 [(1, l_), (4, t4), (6, c), (8, (.pv (.int .i64 i)))] σ (q30 Z w0 n R)
def b63 : Prop :=
  pcodeX (cx w0) 72 lv n cuts Z (cAt code 63) 63 [(1, l_), (4, t4), (6, c), (8, (.pv (.int .i64 i)))] σ (q30 Z w0 n R)
def n64 : Prop :=
  Z (cAt code 64) 64 [(4, t4), (6, c)] σ (finQ (cx w0) Tryz.f40 n R)
def b64 : Prop :=
  pcodeX (cx w0) 72 lv n cuts Z (cAt code 64) 64 [(4, t4), (6, c)] σ (finQ (cx w0) Tryz.f40 n R)
def n67 : Prop :=
  Z (cAt code 67) 67 [(4, t4), (6, c), (69, (.pv (.bool t69)))] σ (q65 Z w0 n R)
def b67 : Prop :=
  pcodeX (cx w0) 72 lv n cuts Z (cAt code 67) 67 [(4, t4), (6, c), (69, (.pv (.bool t69)))] σ (q65 Z w0 n R)
def b0 : Prop :=
  pcodeX (cx w0) 72 lv n cuts Z code 0 (argsE 0 [(.pv (.str name)), l_]) σ (finQ (cx w0) Tryz.f40 n R)
end
variable {Z : XT} {w0 : Base} {n : Nat} {R : RT} {σ τ : Store} {l_ t4 c l_' t4' c' : AV} {i k i' k' : Int} {t69 : Bool} {name : List UInt8}
theorem n8_in (h : b9 (X w0 n) w0 n R σ l_ t4 c i) : n8 (X w0 n) w0 n R σ l_ t4 c i := xr_round (cxOK w0) (S := cuts) (by kernel_rfl : cAt code 8 = .loop (cAt code 9)) @h
theorem b9_eq : b9 Z w0 n R σ l_ t4 c i = (
  opt (aLen ti29.td l_) fun t14 => isI .i64 t14 fun t14_1 => condB (decide ((i : Int) < t14_1)) (opt (aIndexAddr σ tabS ti29.td l_ i) fun t20 => opt (aLoad σ ti46 t20) fun t21 => SCalls (cx w0) selvageref10_Valid.id [t21] σ fun r σ' => isI .i64 r fun t22 => condB ((t22 : Int) != 0) (opt (aBuild tabS ti55 []) fun t24 => opt (aStore σ' ti55 t4 t24) fun σ'_1 => opt (aLoad σ'_1 ti55 t4) fun v => FinK (cx w0) n (.tup [v, (.pv (.int .i64 100))]) σ'_1 R) (n8 Z w0 n R σ' l_ t4 c (IntKind.wrap .i64 (i + 1)))) (n25 Z w0 n R σ l_ t4 c)) := by kernel_rfl
theorem b25_eq : b25 Z w0 n R σ l_ t4 c = (
  n29 Z w0 n R σ l_ t4 c 0) := by kernel_rfl
theorem n25_in (h : b25 (X w0 n) w0 n R σ l_ t4 c) : n25 (X w0 n) w0 n R σ l_ t4 c := xr_in (S := cuts) (by kernel_rfl) @h
theorem n29_in (h : b30 (X w0 n) w0 n R σ l_ t4 c i) : n29 (X w0 n) w0 n R σ l_ t4 c i := xr_round (cxOK w0) (S := cuts) (by kernel_rfl : cAt code 29 = .loop (cAt code 30)) @h
theorem b30_eq : b30 Z w0 n R σ l_ t4 c i = (
  opt (aLen ti29.td l_) fun t27 => isI .i64 t27 fun t27_1 => condB (decide ((i : Int) < t27_1)) (n41 Z w0 n R σ l_ t4 c i 0) (n64 Z w0 n R σ t4 c)) := by kernel_rfl
theorem n41_in (h : b42 (X w0 n) w0 n R σ l_ t4 c i k) : n41 (X w0 n) w0 n R σ l_ t4 c i k := xr_round (cxOK w0) (S := cuts) (by kernel_rfl : cAt code 41 = .loop (cAt code 42)) @h
theorem b42_eq : b42 Z w0 n R σ l_ t4 c i k = (
  opt (aIndexAddr σ tabS ti29.td l_ i) fun t34 => opt (aFieldAddr tabS ti46.td t34 5) fun t35 => opt (aLoad σ ti43 t35) fun t36 => opt (aLen ti43.td t36) fun t37 => isI .i64 t37 fun t37_1 => condB (decide ((k : Int) < t37_1)) (opt (aIndexAddr σ tabS ti29.td l_ i) fun t43 => opt (aFieldAddr tabS ti46.td t43 5) fun t44 => opt (aLoad σ ti43 t44) fun t45 => opt (aIndexAddr σ tabS ti43.td t45 k) fun t47 => opt (aFieldAddr tabS ti79.td t47 0) fun t48 => opt (aLoad σ ti3 t48) fun t49 => isI .i64 t49 fun t49_1 => condB ((t49_1 : Int) == 2) (opt (aFieldAddr tabS ti55.td c 2) fun t52 => opt (aLoad σ ti3 t52) fun t53 => isI .i64 t53 fun t53_1 => opt (aFieldAddr tabS ti55.td c 2) fun t55 => opt (aStore σ ti3 t55 (.pv (.int .i64 (IntKind.wrap .i64 (t53_1 + 1))))) fun σ' => n62 Z w0 n R σ' l_ t4 c i k) (condB ((t49_1 : Int) == 3) (opt (aFieldAddr tabS ti55.td c 1) fun t58 => opt (aLoad σ ti3 t58) fun t59 => isI .i64 t59 fun t59_1 => opt (aFieldAddr tabS ti55.td c 1) fun t61 => opt (aStore σ ti3 t61 (.pv (.int .i64 (IntKind.wrap .i64 (t59_1 + 1))))) fun σ' => n62 Z w0 n R σ' l_ t4 c i k) (n62 Z w0 n R σ l_ t4 c i k))) (n63 Z w0 n R σ l_ t4 c i)) := by kernel_rfl
theorem b62_eq : b62 Z w0 n R σ l_ t4 c i k = (
  n41 Z w0 n R σ l_ t4 c i (IntKind.wrap .i64 (k + 1))) := by kernel_rfl
theorem n62_in (h : b62 (X w0 n) w0 n R σ l_ t4 c i k) : n62 (X w0 n) w0 n R σ l_ t4 c i k := xr_in (S := cuts) (by kernel_rfl) @h
theorem b63_eq : b63 Z w0 n R σ l_ t4 c i = (
  n29 Z w0 n R σ l_ t4 c (IntKind.wrap .i64 (i + 1))) := by kernel_rfl
theorem n63_in (h : b63 (X w0 n) w0 n R σ l_ t4 c i) : n63 (X w0 n) w0 n R σ l_ t4 c i := xr_in (S := cuts) (by kernel_rfl) @h
theorem b64_eq : b64 Z w0 n R σ t4 c = (
  opt (aFieldAddr tabS ti55.td c 1) fun t62 => opt (aLoad σ ti3 t62) fun t63 => isI .i64 t63 fun t63_1 => condB (decide ((t63_1 : Int) > 2147483647)) (n67 Z w0 n R σ t4 c true) (opt (aFieldAddr tabS ti55.td c 2) fun t66 => opt (aLoad σ ti3 t66) fun t67 => isI .i64 t67 fun t67_1 => n67 Z w0 n R σ t4 c (decide ((t67_1 : Int) > 2147483647)))) := by kernel_rfl
theorem n64_in (h : b64 (X w0 n) w0 n R σ t4 c) : n64 (X w0 n) w0 n R σ t4 c := xr_in (S := cuts) (by kernel_rfl) @h
theorem b67_eq : b67 Z w0 n R σ t4 c t69 = (
  condB t69 (opt (aBuild tabS ti55 []) fun t70 => opt (aStore σ ti55 t4 t70) fun σ' => opt (aLoad σ' ti55 t4) fun v => FinK (cx w0) n (.tup [v, (.pv (.int .i64 2))]) σ' R) (opt (aLoad σ ti55 c) fun t71 => opt (aStore σ ti55 t4 t71) fun σ' => opt (aLoad σ' ti55 t4) fun v => FinK (cx w0) n (.tup [v, (.pv (.int .i64 0))]) σ' R)) := by kernel_rfl
theorem n67_in (h : b67 (X w0 n) w0 n R σ t4 c t69) : n67 (X w0 n) w0 n R σ t4 c t69 := xr_in (S := cuts) (by kernel_rfl) @h
theorem b0_eq : b0 Z w0 n R σ name l_ = (
  opt (aBuild tabS ti55 [(0, (.pv (.str name)))]) fun t11 => opt (aStore ((σ ++ [.cells 55 (AV.ofValue ti55.zero).cells]) ++ [.cells 55 (AV.ofValue ti55.zero).cells]) ti55 (.ptr (List.length (σ ++ [.cells 55 (AV.ofValue ti55.zero).cells])) 0) t11) fun σ' => n8 Z w0 n R σ' l_ (.ptr (List.length σ) 0) (.ptr (List.length (σ ++ [.cells 55 (AV.ofValue ti55.zero).cells])) 0) 0) := by kernel_rfl
theorem calls (h : b0 (X w0 (List.length σ)) w0 (List.length σ) R σ name l_) : SCalls (cx w0) selvageref16_Of.id [(.pv (.str name)), l_] σ R :=
  xr_enter (cxOK w0) (x := fe) (S := cuts) (selvageref16_Of.ok w0) (by kernel_rfl) @h
attribute [irreducible] n8 b9 n25 b25 n29 b30 n41 b42 n62 b62 n63 b63 n64 b64 n67 b67 b0
end selvageref16_Of
end Go.Sv
