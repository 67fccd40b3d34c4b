/- What the code of Go functions comes to over abstract stores, piece by piece; each equation by the kernel. Printed by a program of this session. -/
import Derived.Test.YtebgkjjbbnbnlaaGreatDoorSvT
import Derived.KernelRfl
set_option linter.unusedVariables false
set_option maxRecDepth 100000
namespace Go.Sv
open Go Go.Proofs
namespace G7
def lvs : List (List Nat) := [[0], [0], [0], [0], [0], [0, 6], [], [], [2], [0], [0], [0], [0], [0, 8, 9], [0, 8, 9], [0, 8, 9], [0, 8, 9], [0, 8, 9, 10], [0, 8, 9, 10], [0, 8, 9], [], [0, 8, 9], [0, 8, 9], [0, 8, 9], [0, 8, 9], [0, 3, 8, 9], [0, 3, 8, 9], [0, 4, 8, 9], [0, 4, 8, 9], [0, 8, 9, 28], [], [], [2], [0, 8, 9], [0, 8, 9], [], [], [2]]
def lv : Nat → List Nat := lvOf lvs
noncomputable def code : Code := E6 Tryz.f133
noncomputable def fe : FE := ⟨Tryz.f133, code, lv⟩
def cuts : List Nat := [15, 29, 35]
abbrev X (w0 : Base) (n : Nat) : XT := xr (cx w0) 30 lv n
theorem ok (w0 : Base) : FOK (cx w0) G7.id fe := ⟨Tryz.func133, by kernel_rfl, by kernel_rfl⟩
section
variable (Z : XT) (w0 : Base) (n : Nat) (R : RT) (σ : Store) (name : List UInt8) (t8 t9 : Int) (t28 : Bool)
def q11 : QT := thenQ (fun env σ => Z (cAt code 35) 35 (prune (lv 35) env) σ (finQ (cx w0) Tryz.f133 n R)) (finQ (cx w0) Tryz.f133 n R)
def q14 : QT := G0 0 (q11 Z w0 n R)
def q15 : QT := thenQ (fun env σ => Z (cAt code 14) 14 (prune (lv 14) env) σ (q14 Z w0 n R)) (q14 Z w0 n R)
def q22 : QT := thenQ (fun env σ => A4 (cx w0) 30 lv n cuts Z (cAt code 34) 34 (prune (lv 34) env) σ (q15 Z w0 n R)) (q15 Z w0 n R)
def q23 : QT := G0 1 (q22 Z w0 n R)
def n14 : Prop :=
  Z (cAt code 14) 14 [(0, (.pv (.str name))), (8, (.pv (.int .i64 t8))), (9, (.pv (.int .i64 t9)))] σ (q14 Z w0 n R)
def b15 : Prop :=
  A4 (cx w0) 30 lv n cuts Z (cAt code 15) 15 [(0, (.pv (.str name))), (8, (.pv (.int .i64 t8))), (9, (.pv (.int .i64 t9)))] σ (q15 Z w0 n R)
def n29 : Prop :=
  Z (cAt code 29) 29 [(0, (.pv (.str name))), (8, (.pv (.int .i64 t8))), (9, (.pv (.int .i64 t9))), (28, (.pv (.bool t28)))] σ (q23 Z w0 n R)
def b29 : Prop :=
  A4 (cx w0) 30 lv n cuts Z (cAt code 29) 29 [(0, (.pv (.str name))), (8, (.pv (.int .i64 t8))), (9, (.pv (.int .i64 t9))), (28, (.pv (.bool t28)))] σ (q23 Z w0 n R)
def n35 : Prop :=
  Z (cAt code 35) 35 [] σ (finQ (cx w0) Tryz.f133 n R)
def b35 : Prop :=
  A4 (cx w0) 30 lv n cuts Z (cAt code 35) 35 [] σ (finQ (cx w0) Tryz.f133 n R)
def b0 : Prop :=
  A4 (cx w0) 30 lv n cuts Z code 0 (argsE 0 [(.pv (.str name))]) σ (finQ (cx w0) Tryz.f133 n R)
end
variable {Z : XT} {w0 : Base} {n : Nat} {R : RT} {σ τ : Store} {name name' : List UInt8} {t8 t9 t8' t9' : Int} {t28 : Bool}
theorem n14_in (h : b15 (X w0 n) w0 n R σ name t8 t9) : n14 (X w0 n) w0 n R σ name t8 t9 := H5 (cxOK w0) (S := cuts) (by kernel_rfl : cAt code 14 = .loop (cAt code 15)) h
theorem b15_eq : b15 Z w0 n R σ name t8 t9 = (
  condB (decide ((t9 : Int) < t8)) (opt (P4 tabS ti9.td (.pv (.str name)) t9) fun t14 => isI .u8 t14 fun t14_1 => condB (decide ((t14_1 : Int) < 33)) (n29 Z w0 n R σ name t8 t9 true) (condB (decide ((t14_1 : Int) ≥ 127)) (n29 Z w0 n R σ name t8 t9 true) (condB ((t14_1 : Int) == 34) (n29 Z w0 n R σ name t8 t9 true) (n29 Z w0 n R σ name t8 t9 ((t14_1 : Int) == 92))))) (n35 Z w0 n R σ)) := by kernel_rfl
theorem b29_eq : b29 Z w0 n R σ name t8 t9 t28 = (
  condB t28 (FinK (cx w0) n (.pv (.bool true)) σ R) (n14 Z w0 n R σ name t8 (IntKind.wrap .i64 (t9 + 1)))) := by kernel_rfl
theorem n29_in (h : b29 (X w0 n) w0 n R σ name t8 t9 t28) : n29 (X w0 n) w0 n R σ name t8 t9 t28 := xr_in (S := cuts) (by kernel_rfl) h
theorem b35_eq : b35 Z w0 n R σ = (
  FinK (cx w0) n (.pv (.bool false)) σ R) := by kernel_rfl
theorem n35_in (h : b35 (X w0 n) w0 n R σ) : n35 (X w0 n) w0 n R σ := xr_in (S := cuts) (by kernel_rfl) h
theorem b0_eq : b0 Z w0 n R σ name = (
  condB ((name : List UInt8) == []) (FinK (cx w0) n (.pv (.bool true)) σ R) (n14 Z w0 n R σ name (List.length (name : List UInt8) : Int) 0)) := by kernel_rfl
theorem calls (h : b0 (X w0 (List.length σ)) w0 (List.length σ) R σ name) : A1 (cx w0) G7.id [(.pv (.str name))] σ R :=
  D3 (cxOK w0) (x := fe) (S := cuts) (G7.ok w0) (by kernel_rfl) h
end G7
namespace N2
def lvs : List (List Nat) := [[0], [0], [0], [0], [0], [0, 4], [0, 4], [0, 4], [0, 4], [0, 4], [0, 4, 6], [0, 4], [], [0, 4], [0, 4], [0, 4], [0, 4], [0, 4, 12], [4], [4], [2, 3], [0, 4], [0, 4], [], [], [2, 3]]
def lv : Nat → List Nat := lvOf lvs
noncomputable def code : Code := E6 Tryz.f134
noncomputable def fe : FE := ⟨Tryz.f134, code, lv⟩
theorem ok (w0 : Base) : FOK (cx w0) N2.id fe := ⟨Tryz.func134, by kernel_rfl, by kernel_rfl⟩
variable {Z : XT} {w0 : Base} {n : Nat} {R : RT} {σ τ : Store} {c i c' i' : Int}
end N2
namespace F0
def lvs : List (List Nat) := [[0], [0], [0], [0], [0], [0, 10], [0], [0], [2], [0], [0], [0], [0, 3], [0, 3], [0, 3], [0, 3], [0, 3], [0, 3, 14, 15], [0, 3, 14, 15], [0, 3, 14, 15], [0, 3, 14, 15], [0, 3, 14, 15, 16], [0, 3, 14, 15, 16], [0, 3, 14, 15], [3], [0, 3, 14, 15], [0, 3, 14, 15], [0, 3, 14, 15], [0, 3, 14, 15], [0, 3, 4, 14, 15], [0, 3, 4, 14, 15], [0, 3, 5, 14, 15], [0, 3, 5, 14, 15], [0, 3, 5, 6, 7, 14, 15], [0, 3, 5, 6, 7, 14, 15], [0, 3, 5, 6, 7, 14, 15], [0, 3, 5, 6, 14, 15, 28], [0, 3, 6, 14, 15], [0, 3, 6, 14, 15], [0, 3, 6, 14, 15], [0, 3, 5, 14, 15], [0, 3, 5, 14, 15], [0, 3, 5, 14, 15, 33], [0, 3, 5, 14, 15], [0, 3, 5, 14, 15], [0, 3, 14, 15], [3], [3], [3], [3], [2]]
def lv : Nat → List Nat := lvOf lvs
noncomputable def code : Code := E6 Tryz.f95
noncomputable def fe : FE := ⟨Tryz.f95, code, lv⟩
def cuts : List Nat := [19, 42, 45, 46]
abbrev X (w0 : Base) (n : Nat) : XT := xr (cx w0) 55 lv n
theorem ok (w0 : Base) : FOK (cx w0) F0.id fe := ⟨Tryz.func95, by kernel_rfl, by kernel_rfl⟩
section
variable (Z : XT) (w0 : Base) (n : Nat) (R : RT) (σ : Store) (name : List UInt8) (b : AV) (c t14 t15 : Int) (t33 : Bool)
def q15 : QT := thenQ (fun env σ => Z (cAt code 46) 46 (prune (lv 46) env) σ (finQ (cx w0) Tryz.f95 n R)) (finQ (cx w0) Tryz.f95 n R)
def q18 : QT := G0 0 (q15 Z w0 n R)
def q19 : QT := thenQ (fun env σ => Z (cAt code 18) 18 (prune (lv 18) env) σ (q18 Z w0 n R)) (q18 Z w0 n R)
def q26 : QT := thenQ (fun env σ => Z (cAt code 45) 45 (prune (lv 45) env) σ (q19 Z w0 n R)) (q19 Z w0 n R)
def q27 : QT := G0 1 (q26 Z w0 n R)
def q34 : QT := G0 2 (q27 Z w0 n R)
def n18 : Prop :=
  Z (cAt code 18) 18 [(0, (.pv (.str name))), (3, b), (14, (.pv (.int .i64 t14))), (15, (.pv (.int .i64 t15)))] σ (q18 Z w0 n R)
def b19 : Prop :=
  A4 (cx w0) 55 lv n cuts Z (cAt code 19) 19 [(0, (.pv (.str name))), (3, b), (14, (.pv (.int .i64 t14))), (15, (.pv (.int .i64 t15)))] σ (q19 Z w0 n R)
def n42 : Prop :=
  Z (cAt code 42) 42 [(0, (.pv (.str name))), (3, b), (5, (.pv (.int .u8 c))), (14, (.pv (.int .i64 t14))), (15, (.pv (.int .i64 t15))), (33, (.pv (.bool t33)))] σ (q34 Z w0 n R)
def b42 : Prop :=
  A4 (cx w0) 55 lv n cuts Z (cAt code 42) 42 [(0, (.pv (.str name))), (3, b), (5, (.pv (.int .u8 c))), (14, (.pv (.int .i64 t14))), (15, (.pv (.int .i64 t15))), (33, (.pv (.bool t33)))] σ (q34 Z w0 n R)
def n45 : Prop :=
  Z (cAt code 45) 45 [(0, (.pv (.str name))), (3, b), (14, (.pv (.int .i64 t14))), (15, (.pv (.int .i64 t15)))] σ (q19 Z w0 n R)
def b45 : Prop :=
  A4 (cx w0) 55 lv n cuts Z (cAt code 45) 45 [(0, (.pv (.str name))), (3, b), (14, (.pv (.int .i64 t14))), (15, (.pv (.int .i64 t15)))] σ (q19 Z w0 n R)
def n46 : Prop :=
  Z (cAt code 46) 46 [(3, b)] σ (finQ (cx w0) Tryz.f95 n R)
def b46 : Prop :=
  A4 (cx w0) 55 lv n cuts Z (cAt code 46) 46 [(3, b)] σ (finQ (cx w0) Tryz.f95 n R)
def b0 : Prop :=
  A4 (cx w0) 55 lv n cuts Z code 0 (argsE 0 [(.pv (.str name))]) σ (finQ (cx w0) Tryz.f95 n R)
end
variable {Z : XT} {w0 : Base} {n : Nat} {R : RT} {σ τ : Store} {name name' : List UInt8} {b b' : AV} {t14 t15 c t14' t15' : Int} {t33 : Bool}
theorem n18_in (h : b19 (X w0 n) w0 n R σ name b t14 t15) : n18 (X w0 n) w0 n R σ name b t14 t15 := H5 (cxOK w0) (S := cuts) (by kernel_rfl : cAt code 18 = .loop (cAt code 19)) h
theorem n18_weak (e : EWeak (cx w0) n [(0, (.pv (.str name))), (3, b), (14, (.pv (.int .i64 t14))), (15, (.pv (.int .i64 t15)))] σ [(0, (.pv (.str name'))), (3, b'), (14, (.pv (.int .i64 t14'))), (15, (.pv (.int .i64 t15')))] τ) (h : n18 (X w0 n) w0 n R τ name' b' t14' t15') : n18 (X w0 n) w0 n R σ name b t14 t15 := O3 (L := lv) (k := 18) (by kernel_rfl : cAt code 18 = .loop (cAt code 19)) e h
theorem b19_eq : b19 Z w0 n R σ name b t14 t15 = (
  condB (decide ((t15 : Int) < t14)) (opt (P4 tabS ti9.td (.pv (.str name)) t15) fun t20 => isI .u8 t20 fun t20_1 => A1 (cx w0) N2.id [(.pv (.int .u8 t20_1))] σ fun r σ' => isTup r fun vs => opt ((vs)[0]?) fun t24 => isI .u8 t24 fun t24_1 => isTup r fun vs_1 => opt ((vs_1)[1]?) fun t25 => isB t25 fun t25_1 => condB t25_1 (A1 (cx w0) G5.id [b, (.pv (.int .u8 92))] σ' fun r_1 σ'_1 => A1 (cx w0) G5.id [b, (.pv (.int .u8 t24_1))] σ'_1 fun r_2 σ'_2 => n45 Z w0 n R σ'_2 name b t14 t15) (condB (decide ((t20_1 : Int) < 32)) (n42 Z w0 n R σ' name b t20_1 t14 t15 true) (n42 Z w0 n R σ' name b t20_1 t14 t15 (decide ((t20_1 : Int) ≥ 127))))) (n46 Z w0 n R σ b)) := by kernel_rfl
theorem b42_eq : b42 Z w0 n R σ name b c t14 t15 t33 = (
  condB t33 ((0 ≤ (6 : Int) ∧ ((0 ≤ (3 : Int) ∧ (opt2 (F9 σ ti5 true 4 [(0, (.pv (.int .u8 92))), (1, (.pv (.int .u8 (IntKind.wrap .u8 (48 + (Int.fdiv c (2 ^ (min (6 : Int).toNat (IntKind.bits .u8))))))))), (2, (.pv (.int .u8 (IntKind.wrap .u8 (48 + (IntKind.wrap .u8 (BitVec.ofInt (IntKind.bits .u8) (Int.fdiv c (2 ^ (min (3 : Int).toNat (IntKind.bits .u8)))) &&& BitVec.ofInt (IntKind.bits .u8) 7).toNat)))))), (3, (.pv (.int .u8 (IntKind.wrap .u8 (48 + (IntKind.wrap .u8 (BitVec.ofInt (IntKind.bits .u8) c &&& BitVec.ofInt (IntKind.bits .u8) 7).toNat))))))]) fun t50 σ' => A1 (cx w0) W1.id [b, t50] σ' fun r σ'_1 => n45 Z w0 n R σ'_1 name b t14 t15))))) (A1 (cx w0) G5.id [b, (.pv (.int .u8 c))] σ fun r σ' => n45 Z w0 n R σ' name b t14 t15)) := by kernel_rfl
theorem n42_in (h : b42 (X w0 n) w0 n R σ name b c t14 t15 t33) : n42 (X w0 n) w0 n R σ name b c t14 t15 t33 := xr_in (S := cuts) (by kernel_rfl) h
theorem b45_eq : b45 Z w0 n R σ name b t14 t15 = (
  n18 Z w0 n R σ name b t14 (IntKind.wrap .i64 (t15 + 1))) := by kernel_rfl
theorem n45_in (h : b45 (X w0 n) w0 n R σ name b t14 t15) : n45 (X w0 n) w0 n R σ name b t14 t15 := xr_in (S := cuts) (by kernel_rfl) h
theorem b46_eq : b46 Z w0 n R σ b = (
  A1 (cx w0) G5.id [b, (.pv (.int .u8 34))] σ fun r σ' => A1 (cx w0) I8.id [b] σ' fun r_1 σ'_1 => isS r_1 fun t54 => FinK (cx w0) n (.pv (.str t54)) σ'_1 R) := by kernel_rfl
theorem n46_in (h : b46 (X w0 n) w0 n R σ b) : n46 (X w0 n) w0 n R σ b := xr_in (S := cuts) (by kernel_rfl) h
theorem b0_eq : b0 Z w0 n R σ name = (
  A1 (cx w0) G7.id [(.pv (.str name))] σ fun r σ' => isB r fun t9 => condB (!t9) (FinK (cx w0) n (.pv (.str name)) σ' R) (A1 (cx w0) G5.id [(.ptr (List.length σ') 0), (.pv (.int .u8 34))] (σ' ++ [.bld 58 5 []]) fun r_1 σ'_1 => n18 Z w0 n R σ'_1 name (.ptr (List.length σ') 0) (List.length (name : List UInt8) : Int) 0)) := by kernel_rfl
theorem calls (h : b0 (X w0 (List.length σ)) w0 (List.length σ) R σ name) : A1 (cx w0) F0.id [(.pv (.str name))] σ R :=
  D3 (cxOK w0) (x := fe) (S := cuts) (F0.ok w0) (by kernel_rfl) h
end F0
namespace selvageref02_Needs
variable {Z : XT} {w0 : Base} {n : Nat} {R : RT} {σ τ : Store} {name name' : List UInt8} {i i' : Int} {t27 : Bool}
end selvageref02_Needs
namespace O4
def lvs : List (List Nat) := [[0], [0], [0], [0], [0], [0, 3], [0, 3], [0, 3], [0, 3], [0, 3], [0, 3, 6], [0, 3], [0], [0, 3], [0, 3], [0, 3], [0, 3], [0, 3, 12], [3], [3], [2], [0, 3], [0, 3], [0], [0], [0], [0, 23], [0], [0], [2], [0], [0], [0], [4], [4], [2]]
def lv : Nat → List Nat := lvOf lvs
noncomputable def code : Code := E6 Tryz.f104
noncomputable def fe : FE := ⟨Tryz.f104, code, lv⟩
theorem ok (w0 : Base) : FOK (cx w0) O4.id fe := ⟨Tryz.func104, by kernel_rfl, by kernel_rfl⟩
variable {Z : XT} {w0 : Base} {n : Nat} {R : RT} {σ τ : Store} {b i b' i' : Int} {t23 : Bool}
end O4
namespace selvageref02_Quote
variable {Z : XT} {w0 : Base} {n : Nat} {R : RT} {σ τ : Store} {name name' : List UInt8} {out out' : AV} {i i' : Int}
end selvageref02_Quote
end Go.Sv
