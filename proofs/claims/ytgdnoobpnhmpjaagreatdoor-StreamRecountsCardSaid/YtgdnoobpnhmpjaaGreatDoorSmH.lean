/- What the code of Go functions comes to over abstract stores, piece by piece; each equation by the kernel. Printed by a program of this session. -/
import Derived.Test.YtgdnoobpnhmpjaaGreatDoorSvT
import Derived.KernelRfl
set_option linter.unusedVariables false
set_option maxRecDepth 100000
namespace Go.Sv
open Go Go.Proofs
namespace selvageref28_starts
def lvs : List (List Nat) := [[0, 1, 2], [0, 1, 2], [0, 1, 2], [0, 1, 2], [0, 1, 2], [0, 1, 2, 12], [], [], [6], [0, 1, 2], [0, 1, 2], [0, 1, 2], [8], [8], [6]]
def lv : Nat → List Nat := lvOf lvs
noncomputable def code : Code := bodyOf Tryz.f52
noncomputable def fe : FE := ⟨Tryz.f52, code, lv⟩
def cuts : List Nat := []
abbrev X (w0 : Base) (n : Nat) : XT := xr (cx w0) 23 lv n
theorem ok (w0 : Base) : FOK (cx w0) selvageref28_starts.id fe := ⟨Tryz.func52, by kernel_rfl, by kernel_rfl⟩
section
variable (Z : XT) (w0 : Base) (n : Nat) (R : RT) (σ : Store) (l_ : AV) (at_ : Int) (with_ : List UInt8)
def b0 : Prop :=
  pcodeX (cx w0) 23 lv n cuts Z code 0 (argsE 0 [l_, (.pv (.int .i64 at_)), (.pv (.str with_))]) σ (finQ (cx w0) Tryz.f52 n R)
end
variable {Z : XT} {w0 : Base} {n : Nat} {R : RT} {σ τ : Store} {l_ : AV} {at_ : Int} {with_ : List UInt8}
theorem b0_eq : b0 Z w0 n R σ l_ at_ with_ = (
  opt (aLen ti63.td l_) fun t11 => isI .i64 t11 fun t11_1 => condB (decide ((at_ : Int) ≥ t11_1)) (FinK (cx w0) n (.pv (.bool false)) σ R) (opt (aIndexAddr σ tabS ti63.td l_ at_) fun t16 => opt (aLoad σ ti9 t16) fun t17 => isS t17 fun t17_1 => SCalls (cx w0) selvageref11_Behind.id [(.pv (.str t17_1)), (.pv (.str with_))] σ fun r σ' => isTup r fun vs => opt ((vs)[0]?) fun t20 => isS t20 fun t20_1 => isTup r fun vs_1 => opt ((vs_1)[1]?) fun t21 => isB t21 fun t21_1 => FinK (cx w0) n (.pv (.bool t21_1)) σ' R)) := by kernel_rfl
theorem calls (h : b0 (X w0 (List.length σ)) w0 (List.length σ) R σ l_ at_ with_) : SCalls (cx w0) selvageref28_starts.id [l_, (.pv (.int .i64 at_)), (.pv (.str with_))] σ R :=
  xr_enter (cxOK w0) (x := fe) (S := cuts) (selvageref28_starts.ok w0) (by kernel_rfl) @h
attribute [irreducible] b0
end selvageref28_starts
namespace selvageref28_first2
def lvs : List (List Nat) := [[0], [0], [0], [0], [6, 7], [6, 7], [6, 7, 8], [6, 7, 8], [6, 7, 8], [6, 7, 8, 23], [6, 8], [6, 7, 8], [6, 7, 8], [6, 7, 8], [6, 7, 8, 9], [6, 7, 8, 9], [6, 7, 8, 9], [6, 7, 8, 9, 36], [6, 8, 9], [6, 7, 8, 9], [6, 7, 8, 9], [6, 7, 8, 9], [2, 3, 4, 5]]
def lv : Nat → List Nat := lvOf lvs
noncomputable def code : Code := bodyOf Tryz.f47
noncomputable def fe : FE := ⟨Tryz.f47, code, lv⟩
def cuts : List Nat := [12, 20, 22]
abbrev X (w0 : Base) (n : Nat) : XT := xr (cx w0) 55 lv n
theorem ok (w0 : Base) : FOK (cx w0) selvageref28_first2.id fe := ⟨Tryz.func47, by kernel_rfl, by kernel_rfl⟩
section
variable (Z : XT) (w0 : Base) (n : Nat) (R : RT) (σ : Store) (s : List UInt8) (ok : Bool) (a b t2 t3 : Int) (t4 : List UInt8) (t5 : Bool) (line : List UInt8)
def n12 : Prop :=
  Z (cAt code 12) 12 [(6, (.pv (.str s))), (7, (.pv (.bool ok))), (8, (.pv (.int .i64 a)))] σ (finQ (cx w0) Tryz.f47 n R)
def b12 : Prop :=
  pcodeX (cx w0) 55 lv n cuts Z (cAt code 12) 12 [(6, (.pv (.str s))), (7, (.pv (.bool ok))), (8, (.pv (.int .i64 a)))] σ (finQ (cx w0) Tryz.f47 n R)
def n20 : Prop :=
  Z (cAt code 20) 20 [(6, (.pv (.str s))), (7, (.pv (.bool ok))), (8, (.pv (.int .i64 a))), (9, (.pv (.int .i64 b)))] σ (finQ (cx w0) Tryz.f47 n R)
def b20 : Prop :=
  pcodeX (cx w0) 55 lv n cuts Z (cAt code 20) 20 [(6, (.pv (.str s))), (7, (.pv (.bool ok))), (8, (.pv (.int .i64 a))), (9, (.pv (.int .i64 b)))] σ (finQ (cx w0) Tryz.f47 n R)
def n22 : Prop :=
  Z (cAt code 22) 22 [(2, (.pv (.int .i64 t2))), (3, (.pv (.int .i64 t3))), (4, (.pv (.str t4))), (5, (.pv (.bool t5)))] σ (finQ (cx w0) Tryz.f47 n R)
def b22 : Prop :=
  pcodeX (cx w0) 55 lv n cuts Z (cAt code 22) 22 [(2, (.pv (.int .i64 t2))), (3, (.pv (.int .i64 t3))), (4, (.pv (.str t4))), (5, (.pv (.bool t5)))] σ (finQ (cx w0) Tryz.f47 n R)
def b0 : Prop :=
  pcodeX (cx w0) 55 lv n cuts Z code 0 (argsE 0 [(.pv (.str line))]) σ (finQ (cx w0) Tryz.f47 n R)
end
variable {Z : XT} {w0 : Base} {n : Nat} {R : RT} {σ τ : Store} {s t4 line : List UInt8} {ok t5 : Bool} {a b t2 t3 : Int}
theorem b12_eq : b12 Z w0 n R σ s ok a = (
  SCalls (cx w0) selvageref28_ranged.id [(.pv (.str s)), (.pv (.bool ok))] σ fun r σ' => isTup r fun vs => opt ((vs)[0]?) fun t33 => isI .i64 t33 fun t33_1 => isTup r fun vs_1 => opt ((vs_1)[1]?) fun t34 => isS t34 fun t34_1 => isTup r fun vs_2 => opt ((vs_2)[2]?) fun t35 => isB t35 fun t35_1 => condB t35_1 (SCalls (cx w0) selvageref11_Behind.id [(.pv (.str t34_1)), (.pv (.str [32, 64, 64]))] σ' fun r_1 σ'_1 => isTup r_1 fun vs_3 => opt ((vs_3)[0]?) fun t40 => isS t40 fun t40_1 => isTup r_1 fun vs_4 => opt ((vs_4)[1]?) fun t41 => isB t41 fun t41_1 => n20 Z w0 n R σ'_1 t40_1 t41_1 a t33_1) (n20 Z w0 n R σ' t34_1 t35_1 a t33_1)) := by kernel_rfl
theorem n12_in (h : b12 (X w0 n) w0 n R σ s ok a) : n12 (X w0 n) w0 n R σ s ok a := xr_in (S := cuts) (by kernel_rfl) @h
theorem b20_eq : b20 Z w0 n R σ s ok a b = (
  condB ok (condB ((s : List UInt8) == []) (n22 Z w0 n R σ a b s true) (opt (aIndex tabS ti9.td (.pv (.str s)) 0) fun t51 => isI .u8 t51 fun t51_1 => n22 Z w0 n R σ a b s ((t51_1 : Int) == 32))) (n22 Z w0 n R σ a b s false)) := by kernel_rfl
theorem n20_in (h : b20 (X w0 n) w0 n R σ s ok a b) : n20 (X w0 n) w0 n R σ s ok a b := xr_in (S := cuts) (by kernel_rfl) @h
theorem b22_eq : b22 Z w0 n R σ t2 t3 t4 t5 = (
  FinK (cx w0) n (.tup [(.pv (.int .i64 t2)), (.pv (.int .i64 t3)), (.pv (.str t4)), (.pv (.bool t5))]) σ R) := by kernel_rfl
theorem n22_in (h : b22 (X w0 n) w0 n R σ t2 t3 t4 t5) : n22 (X w0 n) w0 n R σ t2 t3 t4 t5 := xr_in (S := cuts) (by kernel_rfl) @h
theorem b0_eq : b0 Z w0 n R σ line = (
  SCalls (cx w0) selvageref01_Bare.id [(.pv (.str line))] σ fun r σ' => isS r fun t12 => SCalls (cx w0) selvageref11_Behind.id [(.pv (.str t12)), (.pv (.str [64, 64, 32, 45]))] σ' fun r_1 σ'_1 => isTup r_1 fun vs => opt ((vs)[0]?) fun t14 => isS t14 fun t14_1 => isTup r_1 fun vs_1 => opt ((vs_1)[1]?) fun t15 => isB t15 fun t15_1 => SCalls (cx w0) selvageref28_ranged.id [(.pv (.str t14_1)), (.pv (.bool t15_1))] σ'_1 fun r_2 σ'_2 => isTup r_2 fun vs_2 => opt ((vs_2)[0]?) fun t20 => isI .i64 t20 fun t20_1 => isTup r_2 fun vs_3 => opt ((vs_3)[1]?) fun t21 => isS t21 fun t21_1 => isTup r_2 fun vs_4 => opt ((vs_4)[2]?) fun t22 => isB t22 fun t22_1 => condB t22_1 (SCalls (cx w0) selvageref11_Behind.id [(.pv (.str t21_1)), (.pv (.str [32, 43]))] σ'_2 fun r_3 σ'_3 => isTup r_3 fun vs_5 => opt ((vs_5)[0]?) fun t27 => isS t27 fun t27_1 => isTup r_3 fun vs_6 => opt ((vs_6)[1]?) fun t28 => isB t28 fun t28_1 => n12 Z w0 n R σ'_3 t27_1 t28_1 t20_1) (n12 Z w0 n R σ'_2 t21_1 t22_1 t20_1)) := by kernel_rfl
theorem calls (h : b0 (X w0 (List.length σ)) w0 (List.length σ) R σ line) : SCalls (cx w0) selvageref28_first2.id [(.pv (.str line))] σ R :=
  xr_enter (cxOK w0) (x := fe) (S := cuts) (selvageref28_first2.ok w0) (by kernel_rfl) @h
attribute [irreducible] n12 b12 n20 b20 n22 b22 b0
end selvageref28_first2
namespace selvageref28_ranged
def lvs : List (List Nat) := [[0, 1], [0, 1], [0, 1], [0, 1], [0, 1], [0, 11], [0], [0], [4, 5, 6], [0], [0], [0], [0, 1, 7], [0, 1, 7], [0, 1, 7], [0, 7, 20], [0], [0], [4, 5, 6], [0, 7], [0, 7], [0, 7], [0, 7, 8, 9], [0, 7, 8, 9], [0, 7, 8, 9], [0, 7, 8, 28], [0, 7], [0, 7], [4, 5, 6], [7, 8], [7, 8], [7, 8], [1, 7, 8], [1, 7, 8], [4, 5, 6]]
def lv : Nat → List Nat := lvOf lvs
noncomputable def code : Code := bodyOf Tryz.f86
noncomputable def fe : FE := ⟨Tryz.f86, code, lv⟩
def cuts : List Nat := []
abbrev X (w0 : Base) (n : Nat) : XT := xr (cx w0) 40 lv n
theorem ok (w0 : Base) : FOK (cx w0) selvageref28_ranged.id fe := ⟨Tryz.func86, by kernel_rfl, by kernel_rfl⟩
section
variable (Z : XT) (w0 : Base) (n : Nat) (R : RT) (σ : Store) (s : List UInt8) (ok : Bool)
def b0 : Prop :=
  pcodeX (cx w0) 40 lv n cuts Z code 0 (argsE 0 [(.pv (.str s)), (.pv (.bool ok))]) σ (finQ (cx w0) Tryz.f86 n R)
end
variable {Z : XT} {w0 : Base} {n : Nat} {R : RT} {σ τ : Store} {s : List UInt8} {ok : Bool}
theorem b0_eq : b0 Z w0 n R σ s ok = (
  condB (!ok) (FinK (cx w0) n (.tup [(.pv (.int .i64 0)), (.pv (.str s)), (.pv (.bool false))]) σ R) (SCalls (cx w0) selvageref11_Number.id [(.pv (.str s))] σ fun r σ' => isTup r fun vs => opt ((vs)[0]?) fun t16 => isI .i64 t16 fun t16_1 => isTup r fun vs_1 => opt ((vs_1)[1]?) fun t17 => isS t17 fun t17_1 => isTup r fun vs_2 => opt ((vs_2)[2]?) fun t18 => isB t18 fun t18_1 => condB (!t18_1) (FinK (cx w0) n (.tup [(.pv (.int .i64 0)), (.pv (.str t17_1)), (.pv (.bool false))]) σ' R) (SCalls (cx w0) selvageref11_Behind.id [(.pv (.str t17_1)), (.pv (.str [44]))] σ' fun r_1 σ'_1 => isTup r_1 fun vs_3 => opt ((vs_3)[0]?) fun t25 => isS t25 fun t25_1 => isTup r_1 fun vs_4 => opt ((vs_4)[1]?) fun t26 => isB t26 fun t26_1 => condB (!t26_1) (FinK (cx w0) n (.tup [(.pv (.int .i64 t16_1)), (.pv (.str t17_1)), (.pv (.bool true))]) σ'_1 R) (SCalls (cx w0) selvageref11_Number.id [(.pv (.str t25_1))] σ'_1 fun r_2 σ'_2 => isTup r_2 fun vs_5 => opt ((vs_5)[0]?) fun t34 => isI .i64 t34 fun t34_1 => isTup r_2 fun vs_6 => opt ((vs_6)[1]?) fun t35 => isS t35 fun t35_1 => isTup r_2 fun vs_7 => opt ((vs_7)[2]?) fun t36 => isB t36 fun t36_1 => FinK (cx w0) n (.tup [(.pv (.int .i64 t16_1)), (.pv (.str t35_1)), (.pv (.bool t36_1))]) σ'_2 R)))) := by kernel_rfl
theorem calls (h : b0 (X w0 (List.length σ)) w0 (List.length σ) R σ s ok) : SCalls (cx w0) selvageref28_ranged.id [(.pv (.str s)), (.pv (.bool ok))] σ R :=
  xr_enter (cxOK w0) (x := fe) (S := cuts) (selvageref28_ranged.ok w0) (by kernel_rfl) @h
attribute [irreducible] b0
end selvageref28_ranged
namespace selvageref28_span
def lvs : List (List Nat) := [[0, 1], [0, 1], [0, 1], [0, 1], [0, 1], [0, 1, 6], [0], [0], [4], [0, 1], [0, 1], [0, 1], [4]]
def lv : Nat → List Nat := lvOf lvs
noncomputable def code : Code := bodyOf Tryz.f49
noncomputable def fe : FE := ⟨Tryz.f49, code, lv⟩
def cuts : List Nat := []
abbrev X (w0 : Base) (n : Nat) : XT := xr (cx w0) 15 lv n
theorem ok (w0 : Base) : FOK (cx w0) selvageref28_span.id fe := ⟨Tryz.func49, by kernel_rfl, by kernel_rfl⟩
section
variable (Z : XT) (w0 : Base) (n : Nat) (R : RT) (σ : Store) (a n_ : Int)
def b0 : Prop :=
  pcodeX (cx w0) 15 lv n cuts Z code 0 (argsE 0 [(.pv (.int .i64 a)), (.pv (.int .i64 n_))]) σ (finQ (cx w0) Tryz.f49 n R)
end
variable {Z : XT} {w0 : Base} {n : Nat} {R : RT} {σ τ : Store} {a n_ : Int}
theorem b0_eq : b0 Z w0 n R σ a n_ = (
  condB ((n_ : Int) == 1) (SCalls (cx w0) selvageref11_Digits.id [(.pv (.int .i64 a))] σ fun r σ' => isS r fun t8 => FinK (cx w0) n (.pv (.str t8)) σ' R) (SCalls (cx w0) selvageref11_Digits.id [(.pv (.int .i64 a))] σ fun r σ' => isS r fun t10 => (List.length (t10 : List UInt8) + List.length ([44] : List UInt8) ≤ 9223372036854775807 ∧ (SCalls (cx w0) selvageref11_Digits.id [(.pv (.int .i64 n_))] σ' fun r_1 σ'_1 => isS r_1 fun t13 => (List.length ((t10 ++ [44]) : List UInt8) + List.length (t13 : List UInt8) ≤ 9223372036854775807 ∧ (FinK (cx w0) n (.pv (.str ((t10 ++ [44]) ++ t13))) σ'_1 R)))))) := by kernel_rfl
theorem calls (h : b0 (X w0 (List.length σ)) w0 (List.length σ) R σ a n_) : SCalls (cx w0) selvageref28_span.id [(.pv (.int .i64 a)), (.pv (.int .i64 n_))] σ R :=
  xr_enter (cxOK w0) (x := fe) (S := cuts) (selvageref28_span.ok w0) (by kernel_rfl) @h
attribute [irreducible] b0
end selvageref28_span
namespace selvageref28_rows
def lvs : List (List Nat) := [[0, 1], [0, 1], [0, 1], [0, 1], [0, 1, 7, 8], [0, 1, 7, 8], [0, 1, 7, 8], [0, 1, 7, 8], [0, 1, 7, 8], [0, 1, 7, 8], [0, 1, 7, 8, 13], [0, 1, 7, 8], [1, 7, 8], [0, 1, 7, 8], [0, 1, 7, 8], [0, 1, 7, 8], [0, 1, 7, 8], [0, 1, 7, 8, 22], [1, 7, 8], [0, 1, 7, 8], [0, 1, 7, 8], [0, 1, 7, 8], [0, 1, 7, 8, 9], [0, 1, 7, 8, 9], [0, 1, 7, 8, 9], [0, 1, 7, 8, 9, 45], [1, 7, 8], [0, 1, 7, 8, 9], [0, 1, 7, 8, 9], [0, 1, 7, 8, 9], [0, 1, 7, 8, 9], [0, 1, 7, 8, 9, 55], [0, 1, 7, 8, 9], [0, 1, 7, 8, 9], [0, 1, 7, 8, 9], [0, 1, 7, 8, 9], [0, 1, 7, 8, 9], [0, 1, 7, 8, 67], [0, 1, 7, 8], [0, 1, 7, 8], [0, 1, 7, 8], [1, 7, 8], [1, 7, 8], [4, 5, 6]]
def lv : Nat → List Nat := lvOf lvs
noncomputable def code : Code := bodyOf Tryz.f48
noncomputable def fe : FE := ⟨Tryz.f48, code, lv⟩
def cuts : List Nat := [7, 17, 25, 31, 34, 37, 40, 41]
abbrev X (w0 : Base) (n : Nat) : XT := xr (cx w0) 75 lv n
theorem ok (w0 : Base) : FOK (cx w0) selvageref28_rows.id fe := ⟨Tryz.func48, by kernel_rfl, by kernel_rfl⟩
section
variable (Z : XT) (w0 : Base) (n : Nat) (R : RT) (σ : Store) (l_ : AV) (at_ n_ m : Int) (t22 : Bool) (c : Int) (t45 t55 t67 : Bool)
def q5 : QT := thenQ (fun env σ => Z (cAt code 41) 41 (prune (lv 41) env) σ (finQ (cx w0) Tryz.f48 n R)) (finQ (cx w0) Tryz.f48 n R)
def q6 : QT := blockQ 0 (q5 Z w0 n R)
def q7 : QT := thenQ (fun env σ => Z (cAt code 6) 6 (prune (lv 6) env) σ (q6 Z w0 n R)) (q6 Z w0 n R)
def q14 : QT := blockQ 1 (q7 Z w0 n R)
def q15 : QT := thenQ (fun env σ => pcodeX (cx w0) 75 lv n cuts Z (cAt code 20) 20 (prune (lv 20) env) σ (q14 Z w0 n R)) (q14 Z w0 n R)
def q23 : QT := thenQ (fun env σ => pcodeX (cx w0) 75 lv n cuts Z (cAt code 28) 28 (prune (lv 28) env) σ (q14 Z w0 n R)) (q14 Z w0 n R)
def q29 : QT := thenQ (fun env σ => Z (cAt code 34) 34 (prune (lv 34) env) σ (q14 Z w0 n R)) (q14 Z w0 n R)
def q35 : QT := thenQ (fun env σ => Z (cAt code 40) 40 (prune (lv 40) env) σ (q14 Z w0 n R)) (q14 Z w0 n R)
def n6 : Prop :=
  Z (cAt code 6) 6 [(0, l_), (1, (.pv (.int .i64 at_))), (7, (.pv (.int .i64 n_))), (8, (.pv (.int .i64 m)))] σ (q6 Z w0 n R)
def b7 : Prop :=
  pcodeX (cx w0) 75 lv n cuts Z (cAt code 7) 7 [(0, l_), (1, (.pv (.int .i64 at_))), (7, (.pv (.int .i64 n_))), (8, (.pv (.int .i64 m)))] σ (q7 Z w0 n R)
def n17 : Prop :=
  Z (cAt code 17) 17 [(0, l_), (1, (.pv (.int .i64 at_))), (7, (.pv (.int .i64 n_))), (8, (.pv (.int .i64 m))), (22, (.pv (.bool t22)))] σ (q15 Z w0 n R)
def b17 : Prop :=
  pcodeX (cx w0) 75 lv n cuts Z (cAt code 17) 17 [(0, l_), (1, (.pv (.int .i64 at_))), (7, (.pv (.int .i64 n_))), (8, (.pv (.int .i64 m))), (22, (.pv (.bool t22)))] σ (q15 Z w0 n R)
def n25 : Prop :=
  Z (cAt code 25) 25 [(0, l_), (1, (.pv (.int .i64 at_))), (7, (.pv (.int .i64 n_))), (8, (.pv (.int .i64 m))), (9, (.pv (.int .u8 c))), (45, (.pv (.bool t45)))] σ (q23 Z w0 n R)
def b25 : Prop :=
  pcodeX (cx w0) 75 lv n cuts Z (cAt code 25) 25 [(0, l_), (1, (.pv (.int .i64 at_))), (7, (.pv (.int .i64 n_))), (8, (.pv (.int .i64 m))), (9, (.pv (.int .u8 c))), (45, (.pv (.bool t45)))] σ (q23 Z w0 n R)
def n31 : Prop :=
  Z (cAt code 31) 31 [(0, l_), (1, (.pv (.int .i64 at_))), (7, (.pv (.int .i64 n_))), (8, (.pv (.int .i64 m))), (9, (.pv (.int .u8 c))), (55, (.pv (.bool t55)))] σ (q29 Z w0 n R)
def b31 : Prop :=
  pcodeX (cx w0) 75 lv n cuts Z (cAt code 31) 31 [(0, l_), (1, (.pv (.int .i64 at_))), (7, (.pv (.int .i64 n_))), (8, (.pv (.int .i64 m))), (9, (.pv (.int .u8 c))), (55, (.pv (.bool t55)))] σ (q29 Z w0 n R)
def n34 : Prop :=
  Z (cAt code 34) 34 [(0, l_), (1, (.pv (.int .i64 at_))), (7, (.pv (.int .i64 n_))), (8, (.pv (.int .i64 m))), (9, (.pv (.int .u8 c)))] σ (q14 Z w0 n R)
def b34 : Prop :=
  pcodeX (cx w0) 75 lv n cuts Z (cAt code 34) 34 [(0, l_), (1, (.pv (.int .i64 at_))), (7, (.pv (.int .i64 n_))), (8, (.pv (.int .i64 m))), (9, (.pv (.int .u8 c)))] σ (q14 Z w0 n R)
def n37 : Prop :=
  Z (cAt code 37) 37 [(0, l_), (1, (.pv (.int .i64 at_))), (7, (.pv (.int .i64 n_))), (8, (.pv (.int .i64 m))), (67, (.pv (.bool t67)))] σ (q35 Z w0 n R)
def b37 : Prop :=
  pcodeX (cx w0) 75 lv n cuts Z (cAt code 37) 37 [(0, l_), (1, (.pv (.int .i64 at_))), (7, (.pv (.int .i64 n_))), (8, (.pv (.int .i64 m))), (67, (.pv (.bool t67)))] σ (q35 Z w0 n R)
def n40 : Prop :=
  Z (cAt code 40) 40 [(0, l_), (1, (.pv (.int .i64 at_))), (7, (.pv (.int .i64 n_))), (8, (.pv (.int .i64 m)))] σ (q14 Z w0 n R)
def b40 : Prop :=
  pcodeX (cx w0) 75 lv n cuts Z (cAt code 40) 40 [(0, l_), (1, (.pv (.int .i64 at_))), (7, (.pv (.int .i64 n_))), (8, (.pv (.int .i64 m)))] σ (q14 Z w0 n R)
def n41 : Prop :=
  Z (cAt code 41) 41 [(1, (.pv (.int .i64 at_))), (7, (.pv (.int .i64 n_))), (8, (.pv (.int .i64 m)))] σ (finQ (cx w0) Tryz.f48 n R)
def b41 : Prop :=
  pcodeX (cx w0) 75 lv n cuts Z (cAt code 41) 41 [(1, (.pv (.int .i64 at_))), (7, (.pv (.int .i64 n_))), (8, (.pv (.int .i64 m)))] σ (finQ (cx w0) Tryz.f48 n R)
def b0 : Prop :=
  pcodeX (cx w0) 75 lv n cuts Z code 0 (argsE 0 [l_, (.pv (.int .i64 at_))]) σ (finQ (cx w0) Tryz.f48 n R)
end
variable {Z : XT} {w0 : Base} {n : Nat} {R : RT} {σ τ : Store} {l_ l_' : AV} {at_ n_ m c at_' n_' m' : Int} {t22 t45 t55 t67 : Bool}
theorem n6_in (h : b7 (X w0 n) w0 n R σ l_ at_ n_ m) : n6 (X w0 n) w0 n R σ l_ at_ n_ m := xr_round (cxOK w0) (S := cuts) (by kernel_rfl : cAt code 6 = .loop (cAt code 7)) @h
theorem b7_eq : b7 Z w0 n R σ l_ at_ n_ m = (
  opt (aLen ti63.td l_) fun t12 => isI .i64 t12 fun t12_1 => condB (decide ((at_ : Int) < t12_1)) (SCalls (cx w0) selvageref28_starts.id [l_, (.pv (.int .i64 at_)), (.pv (.str [45, 45, 45, 32]))] σ fun r σ' => isB r fun t16 => condB t16 (SCalls (cx w0) selvageref28_starts.id [l_, (.pv (.int .i64 (IntKind.wrap .i64 (at_ + 1)))), (.pv (.str [43, 43, 43, 32]))] σ' fun r_1 σ'_1 => isB r_1 fun t21 => n17 Z w0 n R σ'_1 l_ at_ n_ m t21) (n17 Z w0 n R σ' l_ at_ n_ m false)) (n41 Z w0 n R σ at_ n_ m)) := by kernel_rfl
theorem b17_eq : b17 Z w0 n R σ l_ at_ n_ m t22 = (
  condB t22 (n41 Z w0 n R σ at_ n_ m) (opt (aIndexAddr σ tabS ti63.td l_ at_) fun t25 => opt (aLoad σ ti9 t25) fun t26 => isS t26 fun t26_1 => opt (aIndex tabS ti9.td (.pv (.str t26_1)) 0) fun t27 => isI .u8 t27 fun t27_1 => condB ((t27_1 : Int) != 32) (condB ((t27_1 : Int) != 45) (condB ((t27_1 : Int) != 43) (condB ((t27_1 : Int) != 92) (n25 Z w0 n R σ l_ at_ n_ m t27_1 ((t27_1 : Int) != 10)) (n25 Z w0 n R σ l_ at_ n_ m t27_1 false)) (n25 Z w0 n R σ l_ at_ n_ m t27_1 false)) (n25 Z w0 n R σ l_ at_ n_ m t27_1 false)) (n25 Z w0 n R σ l_ at_ n_ m t27_1 false))) := by kernel_rfl
theorem n17_in (h : b17 (X w0 n) w0 n R σ l_ at_ n_ m t22) : n17 (X w0 n) w0 n R σ l_ at_ n_ m t22 := xr_in (S := cuts) (by kernel_rfl) @h
theorem b25_eq : b25 Z w0 n R σ l_ at_ n_ m c t45 = (
  condB t45 (n41 Z w0 n R σ at_ n_ m) (condB ((c : Int) == 32) (n31 Z w0 n R σ l_ at_ n_ m c true) (condB ((c : Int) == 45) (n31 Z w0 n R σ l_ at_ n_ m c true) (n31 Z w0 n R σ l_ at_ n_ m c ((c : Int) == 10))))) := by kernel_rfl
theorem n25_in (h : b25 (X w0 n) w0 n R σ l_ at_ n_ m c t45) : n25 (X w0 n) w0 n R σ l_ at_ n_ m c t45 := xr_in (S := cuts) (by kernel_rfl) @h
theorem b31_eq : b31 Z w0 n R σ l_ at_ n_ m c t55 = (
  condB t55 (n34 Z w0 n R σ l_ at_ (IntKind.wrap .i64 (n_ + 1)) m c) (n34 Z w0 n R σ l_ at_ n_ m c)) := by kernel_rfl
theorem n31_in (h : b31 (X w0 n) w0 n R σ l_ at_ n_ m c t55) : n31 (X w0 n) w0 n R σ l_ at_ n_ m c t55 := xr_in (S := cuts) (by kernel_rfl) @h
theorem b34_eq : b34 Z w0 n R σ l_ at_ n_ m c = (
  condB ((c : Int) == 32) (n37 Z w0 n R σ l_ at_ n_ m true) (condB ((c : Int) == 43) (n37 Z w0 n R σ l_ at_ n_ m true) (n37 Z w0 n R σ l_ at_ n_ m ((c : Int) == 10)))) := by kernel_rfl
theorem n34_in (h : b34 (X w0 n) w0 n R σ l_ at_ n_ m c) : n34 (X w0 n) w0 n R σ l_ at_ n_ m c := xr_in (S := cuts) (by kernel_rfl) @h
theorem b37_eq : b37 Z w0 n R σ l_ at_ n_ m t67 = (
  condB t67 (n40 Z w0 n R σ l_ at_ n_ (IntKind.wrap .i64 (m + 1))) (n40 Z w0 n R σ l_ at_ n_ m)) := by kernel_rfl
theorem n37_in (h : b37 (X w0 n) w0 n R σ l_ at_ n_ m t67) : n37 (X w0 n) w0 n R σ l_ at_ n_ m t67 := xr_in (S := cuts) (by kernel_rfl) @h
theorem b40_eq : b40 Z w0 n R σ l_ at_ n_ m = (
  n6 Z w0 n R σ l_ (IntKind.wrap .i64 (at_ + 1)) n_ m) := by kernel_rfl
theorem n40_in (h : b40 (X w0 n) w0 n R σ l_ at_ n_ m) : n40 (X w0 n) w0 n R σ l_ at_ n_ m := xr_in (S := cuts) (by kernel_rfl) @h
theorem b41_eq : b41 Z w0 n R σ at_ n_ m = (
  FinK (cx w0) n (.tup [(.pv (.int .i64 n_)), (.pv (.int .i64 m)), (.pv (.int .i64 at_))]) σ R) := by kernel_rfl
theorem n41_in (h : b41 (X w0 n) w0 n R σ at_ n_ m) : n41 (X w0 n) w0 n R σ at_ n_ m := xr_in (S := cuts) (by kernel_rfl) @h
theorem b0_eq : b0 Z w0 n R σ l_ at_ = (
  n6 Z w0 n R σ l_ at_ 0 0) := by kernel_rfl
theorem calls (h : b0 (X w0 (List.length σ)) w0 (List.length σ) R σ l_ at_) : SCalls (cx w0) selvageref28_rows.id [l_, (.pv (.int .i64 at_))] σ R :=
  xr_enter (cxOK w0) (x := fe) (S := cuts) (selvageref28_rows.ok w0) (by kernel_rfl) @h
attribute [irreducible] n6 b7 n17 b17 n25 b25 n31 b31 n34 b34 n37 b37 n40 b40 n41 b41 b0
end selvageref28_rows
namespace selvageref28_Recount
def lvs : List (List Nat) := [[0], [0], [0], [0], [0], [0, 18], [], [], [2, 3], [0], [0], [0], [4], [4], [4, 5], [4, 5], [4, 5, 6], [4, 5, 6], [4, 5, 6, 7], [4, 5, 6, 7], [4, 5, 6, 7], [4, 5, 6, 7], [4, 5, 6, 7], [4, 5, 6, 7], [4, 5, 6, 7, 24], [4, 5, 6, 7], [5], [4, 5, 6, 7], [4, 5, 6, 7], [4, 5, 6, 7], [4, 5, 6, 7, 8, 9, 10, 11], [4, 5, 6, 7, 8, 9, 10, 11], [4, 5, 6, 7, 8, 9, 10, 11], [4, 5, 6, 7, 8, 9, 10, 38], [4, 5, 6, 7, 8, 9, 10], [4, 5, 6, 7, 8, 9, 10], [4, 5, 6, 7, 8, 9, 10, 12, 13, 14], [4, 5, 6, 7, 8, 9, 10, 12, 13, 14], [4, 5, 6, 7, 14, 15], [4, 5, 6, 7, 14, 15], [4, 5, 6, 7, 14, 15], [4, 5, 6, 7, 14, 15, 63], [4, 5, 6, 7, 14, 15], [4, 5, 6, 7, 14, 15], [4, 5, 6, 7, 14, 15], [4, 5, 6, 7, 14, 15], [4, 5, 6, 7, 14], [4, 5, 6, 7, 14], [4, 5, 6, 14], [4, 5, 6, 14], [4, 5, 6, 7], [4, 5, 7], [4, 5, 7], [4, 5, 7], [4, 5, 6, 7], [4, 5, 6, 7], [4, 5, 6, 7], [4, 5, 6, 7, 86], [4, 5, 7], [4, 5, 7], [4, 5, 7], [4, 5, 7], [4, 5, 7], [4, 5, 6, 7], [4, 5, 6, 7], [4, 5, 6, 7], [4, 5, 6, 7], [5], [5], [2, 3]]
def lv : Nat → List Nat := lvOf lvs
noncomputable def code : Code := bodyOf Tryz.f20
noncomputable def fe : FE := ⟨Tryz.f20, code, lv⟩
def cuts : List Nat := [21, 33, 44, 57, 64, 67]
abbrev X (w0 : Base) (n : Nat) : XT := xr (cx w0) 105 lv n
theorem ok (w0 : Base) : FOK (cx w0) selvageref28_Recount.id fe := ⟨Tryz.func20, by kernel_rfl, by kernel_rfl⟩
section
variable (Z : XT) (w0 : Base) (n : Nat) (R : RT) (σ : Store) (l_ out : AV) (in_ : Bool) (at_ a b : Int) (rest : List UInt8) (t38 : Bool) (end_ : Int) (line : List UInt8) (t86 : Bool) (text : List UInt8)
def q19 : QT := thenQ (fun env σ => Z (cAt code 67) 67 (prune (lv 67) env) σ (finQ (cx w0) Tryz.f20 n R)) (finQ (cx w0) Tryz.f20 n R)
def q20 : QT := blockQ 0 (q19 Z w0 n R)
def q21 : QT := thenQ (fun env σ => Z (cAt code 20) 20 (prune (lv 20) env) σ (q20 Z w0 n R)) (q20 Z w0 n R)
def q28 : QT := blockQ 1 (q21 Z w0 n R)
def q31 : QT := thenQ (fun env σ => pcodeX (cx w0) 105 lv n cuts Z (cAt code 52) 52 (prune (lv 52) env) σ (q28 Z w0 n R)) (q28 Z w0 n R)
def q55 : QT := thenQ (fun env σ => Z (cAt code 64) 64 (prune (lv 64) env) σ (q28 Z w0 n R)) (q28 Z w0 n R)
def n20 : Prop :=
  Z (cAt code 20) 20 [(4, l_), (5, out), (6, (.pv (.bool in_))), (7, (.pv (.int .i64 at_)))] σ (q20 Z w0 n R)
def b21 : Prop :=
  pcodeX (cx w0) 105 lv n cuts Z (cAt code 21) 21 [(4, l_), (5, out), (6, (.pv (.bool in_))), (7, (.pv (.int .i64 at_)))] σ (q21 Z w0 n R)
def n33 : Prop :=
  Z (cAt code 33) 33 [(4, l_), (5, out), (6, (.pv (.bool in_))), (7, (.pv (.int .i64 at_))), (8, (.pv (.int .i64 a))), (9, (.pv (.int .i64 b))), (10, (.pv (.str rest))), (38, (.pv (.bool t38)))] σ (q31 Z w0 n R)
def b33 : Prop :=
  pcodeX (cx w0) 105 lv n cuts Z (cAt code 33) 33 [(4, l_), (5, out), (6, (.pv (.bool in_))), (7, (.pv (.int .i64 at_))), (8, (.pv (.int .i64 a))), (9, (.pv (.int .i64 b))), (10, (.pv (.str rest))), (38, (.pv (.bool t38)))] σ (q31 Z w0 n R)
def n44 : Prop :=
  Z (cAt code 44) 44 [(4, l_), (5, out), (6, (.pv (.bool in_))), (7, (.pv (.int .i64 at_))), (14, (.pv (.int .i64 end_))), (15, (.pv (.str line)))] σ (q31 Z w0 n R)
def b44 : Prop :=
  pcodeX (cx w0) 105 lv n cuts Z (cAt code 44) 44 [(4, l_), (5, out), (6, (.pv (.bool in_))), (7, (.pv (.int .i64 at_))), (14, (.pv (.int .i64 end_))), (15, (.pv (.str line)))] σ (q31 Z w0 n R)
def n57 : Prop :=
  Z (cAt code 57) 57 [(4, l_), (5, out), (6, (.pv (.bool in_))), (7, (.pv (.int .i64 at_))), (86, (.pv (.bool t86)))] σ (q55 Z w0 n R)
def b57 : Prop :=
  pcodeX (cx w0) 105 lv n cuts Z (cAt code 57) 57 [(4, l_), (5, out), (6, (.pv (.bool in_))), (7, (.pv (.int .i64 at_))), (86, (.pv (.bool t86)))] σ (q55 Z w0 n R)
def n64 : Prop :=
  Z (cAt code 64) 64 [(4, l_), (5, out), (6, (.pv (.bool in_))), (7, (.pv (.int .i64 at_)))] σ (q28 Z w0 n R)
def b64 : Prop :=
  pcodeX (cx w0) 105 lv n cuts Z (cAt code 64) 64 [(4, l_), (5, out), (6, (.pv (.bool in_))), (7, (.pv (.int .i64 at_)))] σ (q28 Z w0 n R)
def n67 : Prop :=
  Z (cAt code 67) 67 [(5, out)] σ (finQ (cx w0) Tryz.f20 n R)
def b67 : Prop :=
  pcodeX (cx w0) 105 lv n cuts Z (cAt code 67) 67 [(5, out)] σ (finQ (cx w0) Tryz.f20 n R)
def b0 : Prop :=
  pcodeX (cx w0) 105 lv n cuts Z code 0 (argsE 0 [(.pv (.str text))]) σ (finQ (cx w0) Tryz.f20 n R)
end
variable {Z : XT} {w0 : Base} {n : Nat} {R : RT} {σ τ : Store} {l_ out l_' out' : AV} {in_ t38 t86 in_' : Bool} {at_ a b end_ at_' : Int} {rest line text : List UInt8}
theorem n20_in (h : b21 (X w0 n) w0 n R σ l_ out in_ at_) : n20 (X w0 n) w0 n R σ l_ out in_ at_ := xr_round (cxOK w0) (S := cuts) (by kernel_rfl : cAt code 20 = .loop (cAt code 21)) @h
theorem n20_weak (e : EWeak (cx w0) n [(4, l_), (5, out), (6, (.pv (.bool in_))), (7, (.pv (.int .i64 at_)))] σ [(4, l_'), (5, out'), (6, (.pv (.bool in_'))), (7, (.pv (.int .i64 at_')))] τ) (h : n20 (X w0 n) w0 n R τ l_' out' in_' at_') : n20 (X w0 n) w0 n R σ l_ out in_ at_ := xr_weak (L := lv) (k := 20) (by kernel_rfl : cAt code 20 = .loop (cAt code 21)) @e @h
theorem b21_eq : b21 Z w0 n R σ l_ out in_ at_ = (
  opt (aLen ti63.td l_) fun t23 => isI .i64 t23 fun t23_1 => condB (decide ((at_ : Int) < t23_1)) (opt (aIndexAddr σ tabS ti63.td l_ at_) fun t28 => opt (aLoad σ ti9 t28) fun t29 => isS t29 fun t29_1 => SCalls (cx w0) selvageref28_first2.id [(.pv (.str t29_1))] σ fun r σ' => isTup r fun vs => opt ((vs)[0]?) fun t31 => isI .i64 t31 fun t31_1 => isTup r fun vs_1 => opt ((vs_1)[1]?) fun t32 => isI .i64 t32 fun t32_1 => isTup r fun vs_2 => opt ((vs_2)[2]?) fun t33 => isS t33 fun t33_1 => isTup r fun vs_3 => opt ((vs_3)[3]?) fun t34 => isB t34 fun t34_1 => condB in_ (n33 Z w0 n R σ' l_ out in_ at_ t31_1 t32_1 t33_1 t34_1) (n33 Z w0 n R σ' l_ out in_ at_ t31_1 t32_1 t33_1 false)) (n67 Z w0 n R σ out)) := by kernel_rfl
theorem b33_eq : b33 Z w0 n R σ l_ out in_ at_ a b rest t38 = (
  condB t38 (SCalls (cx w0) selvageref28_rows.id [l_, (.pv (.int .i64 (IntKind.wrap .i64 (at_ + 1))))] σ fun r σ' => isTup r fun vs => opt ((vs)[0]?) fun t44 => isI .i64 t44 fun t44_1 => isTup r fun vs_1 => opt ((vs_1)[1]?) fun t45 => isI .i64 t45 fun t45_1 => isTup r fun vs_2 => opt ((vs_2)[2]?) fun t46 => isI .i64 t46 fun t46_1 => SCalls (cx w0) selvageref28_span.id [(.pv (.int .i64 a)), (.pv (.int .i64 t44_1))] σ' fun r_1 σ'_1 => isS r_1 fun t49 => (List.length ([64, 64, 32, 45] : List UInt8) + List.length (t49 : List UInt8) ≤ 9223372036854775807 ∧ ((List.length (([64, 64, 32, 45] ++ t49) : List UInt8) + List.length ([32, 43] : List UInt8) ≤ 9223372036854775807 ∧ (SCalls (cx w0) selvageref28_span.id [(.pv (.int .i64 b)), (.pv (.int .i64 t45_1))] σ'_1 fun r_2 σ'_2 => isS r_2 fun t54 => (List.length ((([64, 64, 32, 45] ++ t49) ++ [32, 43]) : List UInt8) + List.length (t54 : List UInt8) ≤ 9223372036854775807 ∧ ((List.length (((([64, 64, 32, 45] ++ t49) ++ [32, 43]) ++ t54) : List UInt8) + List.length ([32, 64, 64] : List UInt8) ≤ 9223372036854775807 ∧ ((List.length ((((([64, 64, 32, 45] ++ t49) ++ [32, 43]) ++ t54) ++ [32, 64, 64]) : List UInt8) + List.length (rest : List UInt8) ≤ 9223372036854775807 ∧ (opt (aIndexAddr σ'_2 tabS ti63.td l_ at_) fun t61 => opt (aLoad σ'_2 ti9 t61) fun t62 => isS t62 fun t62_1 => SCalls (cx w0) selvageref01_Whole.id [(.pv (.str t62_1))] σ'_2 fun r_3 σ'_3 => isB r_3 fun t63 => condB t63 ((List.length (((((([64, 64, 32, 45] ++ t49) ++ [32, 43]) ++ t54) ++ [32, 64, 64]) ++ rest) : List UInt8) + List.length ([10] : List UInt8) ≤ 9223372036854775807 ∧ (n44 Z w0 n R σ'_3 l_ out in_ at_ t46_1 (((((([64, 64, 32, 45] ++ t49) ++ [32, 43]) ++ t54) ++ [32, 64, 64]) ++ rest) ++ [10])))) (n44 Z w0 n R σ'_3 l_ out in_ at_ t46_1 ((((([64, 64, 32, 45] ++ t49) ++ [32, 43]) ++ t54) ++ [32, 64, 64]) ++ rest))))))))))))) (SCalls (cx w0) selvageref28_starts.id [l_, (.pv (.int .i64 at_)), (.pv (.str [45, 45, 45, 32]))] σ fun r σ' => isB r fun t80 => condB t80 (SCalls (cx w0) selvageref28_starts.id [l_, (.pv (.int .i64 (IntKind.wrap .i64 (at_ + 1)))), (.pv (.str [43, 43, 43, 32]))] σ' fun r_1 σ'_1 => isB r_1 fun t85 => n57 Z w0 n R σ'_1 l_ out false at_ t85) (n57 Z w0 n R σ' l_ out false at_ false))) := by kernel_rfl
theorem n33_in (h : b33 (X w0 n) w0 n R σ l_ out in_ at_ a b rest t38) : n33 (X w0 n) w0 n R σ l_ out in_ at_ a b rest t38 := xr_in (S := cuts) (by kernel_rfl) @h
theorem b44_eq : b44 Z w0 n R σ l_ out in_ at_ end_ line = (
  opt2 (aAppend σ ti5 out (.pv (.str line))) fun t68 σ' => opt (aSlice σ' tabS ti63.td l_ (some (.pv (.int .i64 (IntKind.wrap .i64 (at_ + 1))))) (some (.pv (.int .i64 end_)))) fun t74 => SCalls (cx w0) selvageref01_Join.id [t74] σ' fun r σ'_1 => isS r fun t75 => opt2 (aAppend σ'_1 ti5 t68 (.pv (.str t75))) fun t76 σ'_2 => n20 Z w0 n R σ'_2 l_ t76 in_ end_) := by kernel_rfl
theorem n44_in (h : b44 (X w0 n) w0 n R σ l_ out in_ at_ end_ line) : n44 (X w0 n) w0 n R σ l_ out in_ at_ end_ line := xr_in (S := cuts) (by kernel_rfl) @h
theorem b57_eq : b57 Z w0 n R σ l_ out in_ at_ t86 = (
  condB t86 (opt (aIndexAddr σ tabS ti63.td l_ at_) fun t90 => opt (aLoad σ ti9 t90) fun t91 => isS t91 fun t91_1 => opt2 (aAppend σ ti5 out (.pv (.str t91_1))) fun t92 σ' => n64 Z w0 n R σ' l_ t92 true (IntKind.wrap .i64 (at_ + 1))) (n64 Z w0 n R σ l_ out in_ at_)) := by kernel_rfl
theorem n57_in (h : b57 (X w0 n) w0 n R σ l_ out in_ at_ t86) : n57 (X w0 n) w0 n R σ l_ out in_ at_ t86 := xr_in (S := cuts) (by kernel_rfl) @h
theorem b64_eq : b64 Z w0 n R σ l_ out in_ at_ = (
  opt (aIndexAddr σ tabS ti63.td l_ at_) fun t98 => opt (aLoad σ ti9 t98) fun t99 => isS t99 fun t99_1 => opt2 (aAppend σ ti5 out (.pv (.str t99_1))) fun t100 σ' => n20 Z w0 n R σ' l_ t100 in_ (IntKind.wrap .i64 (at_ + 1))) := by kernel_rfl
theorem n64_in (h : b64 (X w0 n) w0 n R σ l_ out in_ at_) : n64 (X w0 n) w0 n R σ l_ out in_ at_ := xr_in (S := cuts) (by kernel_rfl) @h
theorem b67_eq : b67 Z w0 n R σ out = (
  opt2 (aConvert σ tabS ti95.td ti9.td out) fun t104 σ' => isS t104 fun t104_1 => FinK (cx w0) n (.tup [(.pv (.str t104_1)), (.pv (.int .i64 0))]) σ' R) := by kernel_rfl
theorem n67_in (h : b67 (X w0 n) w0 n R σ out) : n67 (X w0 n) w0 n R σ out := xr_in (S := cuts) (by kernel_rfl) @h
theorem b0_eq : b0 Z w0 n R σ text = (
  condB (decide (((List.length (text : List UInt8) : Int) : Int) > 4194304)) (FinK (cx w0) n (.tup [(.pv (.str [])), (.pv (.int .i64 2))]) σ R) (SCalls (cx w0) selvageref01_Split.id [(.pv (.str text))] σ fun r σ' => n20 Z w0 n R σ' r .nilsl false 0)) := by kernel_rfl
theorem calls (h : b0 (X w0 (List.length σ)) w0 (List.length σ) R σ text) : SCalls (cx w0) selvageref28_Recount.id [(.pv (.str text))] σ R :=
  xr_enter (cxOK w0) (x := fe) (S := cuts) (selvageref28_Recount.ok w0) (by kernel_rfl) @h
attribute [irreducible] n20 b21 n33 b33 n44 b44 n57 b57 n64 b64 n67 b67 b0
end selvageref28_Recount
namespace selvageref11_Behind
def lvs : List (List Nat) := [[0, 1], [0, 1], [0, 1], [0, 1], [0, 1], [0, 1, 18], [], [], [4, 5], [0, 1], [0, 1], [0, 1], [4, 5]]
def lv : Nat → List Nat := lvOf lvs
noncomputable def code : Code := bodyOf Tryz.f84
noncomputable def fe : FE := ⟨Tryz.f84, code, lv⟩
def cuts : List Nat := [5]
abbrev X (w0 : Base) (n : Nat) : XT := xr (cx w0) 23 lv n
theorem ok (w0 : Base) : FOK (cx w0) selvageref11_Behind.id fe := ⟨Tryz.func84, by kernel_rfl, by kernel_rfl⟩
section
variable (Z : XT) (w0 : Base) (n : Nat) (R : RT) (σ : Store) (s with_ : List UInt8) (t18 : Bool)
def q3 : QT := thenQ (fun env σ => pcodeX (cx w0) 23 lv n cuts Z (cAt code 10) 10 (prune (lv 10) env) σ (finQ (cx w0) Tryz.f84 n R)) (finQ (cx w0) Tryz.f84 n R)
def n5 : Prop :=
  Z (cAt code 5) 5 [(0, (.pv (.str s))), (1, (.pv (.str with_))), (18, (.pv (.bool t18)))] σ (q3 Z w0 n R)
def b5 : Prop :=
  pcodeX (cx w0) 23 lv n cuts Z (cAt code 5) 5 [(0, (.pv (.str s))), (1, (.pv (.str with_))), (18, (.pv (.bool t18)))] σ (q3 Z w0 n R)
def b0 : Prop :=
  pcodeX (cx w0) 23 lv n cuts Z code 0 (argsE 0 [(.pv (.str s)), (.pv (.str with_))]) σ (finQ (cx w0) Tryz.f84 n R)
end
variable {Z : XT} {w0 : Base} {n : Nat} {R : RT} {σ τ : Store} {s with_ : List UInt8} {t18 : Bool}
theorem b5_eq : b5 Z w0 n R σ s with_ t18 = (
  condB t18 (FinK (cx w0) n (.tup [(.pv (.str [])), (.pv (.bool false))]) σ R) (opt (aSlice σ tabS ti9.td (.pv (.str s)) (some (.pv (.int .i64 (List.length (with_ : List UInt8) : Int)))) none) fun t22 => isS t22 fun t22_1 => FinK (cx w0) n (.tup [(.pv (.str t22_1)), (.pv (.bool true))]) σ R)) := by kernel_rfl
theorem n5_in (h : b5 (X w0 n) w0 n R σ s with_ t18) : n5 (X w0 n) w0 n R σ s with_ t18 := xr_in (S := cuts) (by kernel_rfl) @h
theorem b0_eq : b0 Z w0 n R σ s with_ = (
  condB (decide (((List.length (s : List UInt8) : Int) : Int) < (List.length (with_ : List UInt8) : Int))) (n5 Z w0 n R σ s with_ true) (opt (aSlice σ tabS ti9.td (.pv (.str s)) none (some (.pv (.int .i64 (List.length (with_ : List UInt8) : Int))))) fun t15 => isS t15 fun t15_1 => n5 Z w0 n R σ s with_ (!((t15_1 : List UInt8) == with_)))) := by kernel_rfl
theorem calls (h : b0 (X w0 (List.length σ)) w0 (List.length σ) R σ s with_) : SCalls (cx w0) selvageref11_Behind.id [(.pv (.str s)), (.pv (.str with_))] σ R :=
  xr_enter (cxOK w0) (x := fe) (S := cuts) (selvageref11_Behind.ok w0) (by kernel_rfl) @h
attribute [irreducible] n5 b5 b0
end selvageref11_Behind
namespace selvageref11_Number
def lvs : List (List Nat) := [[0], [0], [0], [0], [0, 5, 6], [0, 5, 6], [0, 5, 6], [0, 5, 6], [0, 5, 6], [0, 5, 6], [0, 5, 6, 22], [0, 5, 6], [0, 5, 6], [0, 5, 6], [0, 5, 6], [0, 5, 6], [0, 5, 6], [0, 5, 6], [0, 5, 6], [2, 3, 4]]
def lv : Nat → List Nat := lvOf lvs
noncomputable def code : Code := bodyOf Tryz.f130
noncomputable def fe : FE := ⟨Tryz.f130, code, lv⟩
def cuts : List Nat := [7, 10, 17, 19]
abbrev X (w0 : Base) (n : Nat) : XT := xr (cx w0) 44 lv n
theorem ok (w0 : Base) : FOK (cx w0) selvageref11_Number.id fe := ⟨Tryz.func130, by kernel_rfl, by kernel_rfl⟩
section
variable (Z : XT) (w0 : Base) (n : Nat) (R : RT) (σ : Store) (s : List UInt8) (i n_ : Int) (t22 : Bool) (t2 : Int) (t3 : List UInt8) (t4 : Bool)
def q5 : QT := thenQ (fun env σ => Z (cAt code 17) 17 (prune (lv 17) env) σ (finQ (cx w0) Tryz.f130 n R)) (finQ (cx w0) Tryz.f130 n R)
def q6 : QT := blockQ 0 (q5 Z w0 n R)
def q7 : QT := thenQ (fun env σ => Z (cAt code 6) 6 (prune (lv 6) env) σ (q6 Z w0 n R)) (q6 Z w0 n R)
def q8 : QT := thenQ (fun env σ => pcodeX (cx w0) 44 lv n cuts Z (cAt code 13) 13 (prune (lv 13) env) σ (q7 Z w0 n R)) (q7 Z w0 n R)
def n6 : Prop :=
  Z (cAt code 6) 6 [(0, (.pv (.str s))), (5, (.pv (.int .i64 i))), (6, (.pv (.int .i64 n_)))] σ (q6 Z w0 n R)
def b7 : Prop :=
  pcodeX (cx w0) 44 lv n cuts Z (cAt code 7) 7 [(0, (.pv (.str s))), (5, (.pv (.int .i64 i))), (6, (.pv (.int .i64 n_)))] σ (q7 Z w0 n R)
def n10 : Prop :=
  Z (cAt code 10) 10 [(0, (.pv (.str s))), (5, (.pv (.int .i64 i))), (6, (.pv (.int .i64 n_))), (22, (.pv (.bool t22)))] σ (q8 Z w0 n R)
def b10 : Prop :=
  pcodeX (cx w0) 44 lv n cuts Z (cAt code 10) 10 [(0, (.pv (.str s))), (5, (.pv (.int .i64 i))), (6, (.pv (.int .i64 n_))), (22, (.pv (.bool t22)))] σ (q8 Z w0 n R)
def n17 : Prop :=
  Z (cAt code 17) 17 [(0, (.pv (.str s))), (5, (.pv (.int .i64 i))), (6, (.pv (.int .i64 n_)))] σ (finQ (cx w0) Tryz.f130 n R)
def b17 : Prop :=
  pcodeX (cx w0) 44 lv n cuts Z (cAt code 17) 17 [(0, (.pv (.str s))), (5, (.pv (.int .i64 i))), (6, (.pv (.int .i64 n_)))] σ (finQ (cx w0) Tryz.f130 n R)
def n19 : Prop :=
  Z (cAt code 19) 19 [(2, (.pv (.int .i64 t2))), (3, (.pv (.str t3))), (4, (.pv (.bool t4)))] σ (finQ (cx w0) Tryz.f130 n R)
def b19 : Prop :=
  pcodeX (cx w0) 44 lv n cuts Z (cAt code 19) 19 [(2, (.pv (.int .i64 t2))), (3, (.pv (.str t3))), (4, (.pv (.bool t4)))] σ (finQ (cx w0) Tryz.f130 n R)
def b0 : Prop :=
  pcodeX (cx w0) 44 lv n cuts Z code 0 (argsE 0 [(.pv (.str s))]) σ (finQ (cx w0) Tryz.f130 n R)
end
variable {Z : XT} {w0 : Base} {n : Nat} {R : RT} {σ τ : Store} {s t3 s' : List UInt8} {i n_ t2 i' n_' : Int} {t22 t4 : Bool}
theorem n6_in (h : b7 (X w0 n) w0 n R σ s i n_) : n6 (X w0 n) w0 n R σ s i n_ := xr_round (cxOK w0) (S := cuts) (by kernel_rfl : cAt code 6 = .loop (cAt code 7)) @h
theorem b7_eq : b7 Z w0 n R σ s i n_ = (
  condB (decide ((i : Int) < (List.length (s : List UInt8) : Int))) (opt (aIndex tabS ti9.td (.pv (.str s)) i) fun t14 => isI .u8 t14 fun t14_1 => condB (decide ((t14_1 : Int) ≥ 48)) (opt (aIndex tabS ti9.td (.pv (.str s)) i) fun t20 => isI .u8 t20 fun t20_1 => n10 Z w0 n R σ s i n_ (decide ((t20_1 : Int) ≤ 57))) (n10 Z w0 n R σ s i n_ false)) (n10 Z w0 n R σ s i n_ false)) := by kernel_rfl
theorem b10_eq : b10 Z w0 n R σ s i n_ t22 = (
  condB t22 (opt (aIndex tabS ti9.td (.pv (.str s)) i) fun t27 => isI .u8 t27 fun t27_1 => n6 Z w0 n R σ s (IntKind.wrap .i64 (i + 1)) (if (2147483648 : Int) < (IntKind.wrap .i64 ((IntKind.wrap .i64 (n_ * 10)) + (IntKind.wrap .i64 (IntKind.wrap .u8 (t27_1 - 48))))) then 2147483648 else (IntKind.wrap .i64 ((IntKind.wrap .i64 (n_ * 10)) + (IntKind.wrap .i64 (IntKind.wrap .u8 (t27_1 - 48))))))) (n17 Z w0 n R σ s i n_)) := by kernel_rfl
theorem n10_in (h : b10 (X w0 n) w0 n R σ s i n_ t22) : n10 (X w0 n) w0 n R σ s i n_ t22 := xr_in (S := cuts) (by kernel_rfl) @h
theorem b17_eq : b17 Z w0 n R σ s i n_ = (
  opt (aSlice σ tabS ti9.td (.pv (.str s)) (some (.pv (.int .i64 i))) none) fun t37 => isS t37 fun t37_1 => condB (decide ((i : Int) > 0)) (((opt (aSlice σ tabS ti9.td (.pv (.str s)) (some (.pv (.int .i64 i))) none) fun t37_2 => ((t37_2 : AV) = (.pv (.str t37_1)))) ∧ (n19 Z w0 n R σ n_ t37_1 (decide ((n_ : Int) ≤ 2147483647))))) (((opt (aSlice σ tabS ti9.td (.pv (.str s)) (some (.pv (.int .i64 i))) none) fun t37_2 => ((t37_2 : AV) = (.pv (.str t37_1)))) ∧ (n19 Z w0 n R σ n_ t37_1 false)))) := by kernel_rfl
theorem n17_in (h : b17 (X w0 n) w0 n R σ s i n_) : n17 (X w0 n) w0 n R σ s i n_ := xr_in (S := cuts) (by kernel_rfl) @h
theorem b19_eq : b19 Z w0 n R σ t2 t3 t4 = (
  FinK (cx w0) n (.tup [(.pv (.int .i64 t2)), (.pv (.str t3)), (.pv (.bool t4))]) σ R) := by kernel_rfl
theorem n19_in (h : b19 (X w0 n) w0 n R σ t2 t3 t4) : n19 (X w0 n) w0 n R σ t2 t3 t4 := xr_in (S := cuts) (by kernel_rfl) @h
theorem b0_eq : b0 Z w0 n R σ s = (
  n6 Z w0 n R σ s 0 0) := by kernel_rfl
theorem calls (h : b0 (X w0 (List.length σ)) w0 (List.length σ) R σ s) : SCalls (cx w0) selvageref11_Number.id [(.pv (.str s))] σ R :=
  xr_enter (cxOK w0) (x := fe) (S := cuts) (selvageref11_Number.ok w0) (by kernel_rfl) @h
attribute [irreducible] n6 b7 n10 b10 n17 b17 n19 b19 b0
end selvageref11_Number
namespace selvageref01_Split
def lvs : List (List Nat) := [[0], [0], [0], [0], [0, 3], [0, 3], [0, 3, 4], [0, 3, 4], [0, 3, 4], [0, 3, 4, 5], [0, 3, 4, 5], [0, 3, 4, 5], [0, 3, 4, 5], [0, 3, 4, 5], [0, 3, 4, 5, 9], [0, 3, 4, 5], [0, 3, 4], [0, 3, 4, 5], [0, 3, 4, 5], [0, 3, 4, 5], [0, 3, 4, 5], [0, 3, 4, 5, 15], [0, 3, 4, 5], [0, 3, 4, 5], [0, 3, 5], [0, 3, 4, 5], [0, 3, 4, 5], [0, 3, 4], [0, 3, 4], [0, 3, 4], [0, 3, 4, 29], [0, 3, 4], [3], [3], [3], [2]]
def lv : Nat → List Nat := lvOf lvs
noncomputable def code : Code := bodyOf Tryz.f31
noncomputable def fe : FE := ⟨Tryz.f31, code, lv⟩
def cuts : List Nat := [11, 26, 27, 33]
abbrev X (w0 : Base) (n : Nat) : XT := xr (cx w0) 37 lv n
theorem ok (w0 : Base) : FOK (cx w0) selvageref01_Split.id fe := ⟨Tryz.func31, by kernel_rfl, by kernel_rfl⟩
section
variable (Z : XT) (w0 : Base) (n : Nat) (R : RT) (σ : Store) (s : List UInt8) (out : AV) (from_ i : Int)
def q7 : QT := thenQ (fun env σ => Z (cAt code 27) 27 (prune (lv 27) env) σ (finQ (cx w0) Tryz.f31 n R)) (finQ (cx w0) Tryz.f31 n R)
def q10 : QT := blockQ 0 (q7 Z w0 n R)
def q11 : QT := thenQ (fun env σ => Z (cAt code 10) 10 (prune (lv 10) env) σ (q10 Z w0 n R)) (q10 Z w0 n R)
def n10 : Prop :=
  Z (cAt code 10) 10 [(0, (.pv (.str s))), (3, out), (4, (.pv (.int .i64 from_))), (5, (.pv (.int .i64 i)))] σ (q10 Z w0 n R)
def b11 : Prop :=
  pcodeX (cx w0) 37 lv n cuts Z (cAt code 11) 11 [(0, (.pv (.str s))), (3, out), (4, (.pv (.int .i64 from_))), (5, (.pv (.int .i64 i)))] σ (q11 Z w0 n R)
def n26 : Prop :=
  Z (cAt code 26) 26 [(0, (.pv (.str s))), (3, out), (4, (.pv (.int .i64 from_))), (5, (.pv (.int .i64 i)))] σ (q11 Z w0 n R)
def b26 : Prop :=
  pcodeX (cx w0) 37 lv n cuts Z (cAt code 26) 26 [(0, (.pv (.str s))), (3, out), (4, (.pv (.int .i64 from_))), (5, (.pv (.int .i64 i)))] σ (q11 Z w0 n R)
def n27 : Prop :=
  Z (cAt code 27) 27 [(0, (.pv (.str s))), (3, out), (4, (.pv (.int .i64 from_)))] σ (finQ (cx w0) Tryz.f31 n R)
def b27 : Prop :=
  pcodeX (cx w0) 37 lv n cuts Z (cAt code 27) 27 [(0, (.pv (.str s))), (3, out), (4, (.pv (.int .i64 from_)))] σ (finQ (cx w0) Tryz.f31 n R)
def n33 : Prop :=
  Z (cAt code 33) 33 [(3, out)] σ (finQ (cx w0) Tryz.f31 n R)
def b33 : Prop :=
  pcodeX (cx w0) 37 lv n cuts Z (cAt code 33) 33 [(3, out)] σ (finQ (cx w0) Tryz.f31 n R)
def b0 : Prop :=
  pcodeX (cx w0) 37 lv n cuts Z code 0 (argsE 0 [(.pv (.str s))]) σ (finQ (cx w0) Tryz.f31 n R)
end
variable {Z : XT} {w0 : Base} {n : Nat} {R : RT} {σ τ : Store} {s s' : List UInt8} {out out' : AV} {from_ i from_' i' : Int}
theorem n10_in (h : b11 (X w0 n) w0 n R σ s out from_ i) : n10 (X w0 n) w0 n R σ s out from_ i := xr_round (cxOK w0) (S := cuts) (by kernel_rfl : cAt code 10 = .loop (cAt code 11)) @h
theorem n10_weak (e : EWeak (cx w0) n [(0, (.pv (.str s))), (3, out), (4, (.pv (.int .i64 from_))), (5, (.pv (.int .i64 i)))] σ [(0, (.pv (.str s'))), (3, out'), (4, (.pv (.int .i64 from_'))), (5, (.pv (.int .i64 i')))] τ) (h : n10 (X w0 n) w0 n R τ s' out' from_' i') : n10 (X w0 n) w0 n R σ s out from_ i := xr_weak (L := lv) (k := 10) (by kernel_rfl : cAt code 10 = .loop (cAt code 11)) @e @h
theorem b11_eq : b11 Z w0 n R σ s out from_ i = (
  condB (decide ((i : Int) < (List.length (s : List UInt8) : Int))) (opt (aIndex tabS ti9.td (.pv (.str s)) i) fun t14 => isI .u8 t14 fun t14_1 => condB ((t14_1 : Int) == 10) (opt (aSlice σ tabS ti9.td (.pv (.str s)) (some (.pv (.int .i64 from_))) (some (.pv (.int .i64 (IntKind.wrap .i64 (i + 1)))))) fun t21 => isS t21 fun t21_1 => opt2 (aBuildSlice σ ti9 false 1 [(0, (.pv (.str t21_1)))]) fun t22 σ' => opt2 (aAppend σ' ti9 out t22) fun t23 σ'_1 => n26 Z w0 n R σ'_1 s t23 (IntKind.wrap .i64 (i + 1)) i) (n26 Z w0 n R σ s out from_ i)) (n27 Z w0 n R σ s out from_)) := by kernel_rfl
theorem b26_eq : b26 Z w0 n R σ s out from_ i = (
  n10 Z w0 n R σ s out from_ (IntKind.wrap .i64 (i + 1))) := by kernel_rfl
theorem n26_in (h : b26 (X w0 n) w0 n R σ s out from_ i) : n26 (X w0 n) w0 n R σ s out from_ i := xr_in (S := cuts) (by kernel_rfl) @h
theorem b27_eq : b27 Z w0 n R σ s out from_ = (
  condB (decide ((from_ : Int) < (List.length (s : List UInt8) : Int))) (opt (aSlice σ tabS ti9.td (.pv (.str s)) (some (.pv (.int .i64 from_))) none) fun t33 => isS t33 fun t33_1 => opt2 (aBuildSlice σ ti9 false 1 [(0, (.pv (.str t33_1)))]) fun t34 σ' => opt2 (aAppend σ' ti9 out t34) fun t35 σ'_1 => n33 Z w0 n R σ'_1 t35) (n33 Z w0 n R σ out)) := by kernel_rfl
theorem n27_in (h : b27 (X w0 n) w0 n R σ s out from_) : n27 (X w0 n) w0 n R σ s out from_ := xr_in (S := cuts) (by kernel_rfl) @h
theorem b33_eq : b33 Z w0 n R σ out = (
  FinK (cx w0) n out σ R) := by kernel_rfl
theorem n33_in (h : b33 (X w0 n) w0 n R σ out) : n33 (X w0 n) w0 n R σ out := xr_in (S := cuts) (by kernel_rfl) @h
theorem b0_eq : b0 Z w0 n R σ s = (
  n10 Z w0 n R σ s .nilsl 0 0) := by kernel_rfl
theorem calls (h : b0 (X w0 (List.length σ)) w0 (List.length σ) R σ s) : SCalls (cx w0) selvageref01_Split.id [(.pv (.str s))] σ R :=
  xr_enter (cxOK w0) (x := fe) (S := cuts) (selvageref01_Split.ok w0) (by kernel_rfl) @h
attribute [irreducible] n10 b11 n26 b26 n27 b27 n33 b33 b0
end selvageref01_Split
namespace selvageref01_Join
def lvs : List (List Nat) := [[0], [0], [0], [0], [0, 3], [0, 3], [0, 3], [0, 3, 4], [0, 3, 4], [0, 3, 4], [0, 3, 4], [0, 3, 4], [0, 3, 4, 8], [0, 3, 4], [3], [0, 3, 4], [0, 3, 4], [0, 3, 4], [0, 3, 4], [3], [3], [2]]
def lv : Nat → List Nat := lvOf lvs
noncomputable def code : Code := bodyOf Tryz.f51
noncomputable def fe : FE := ⟨Tryz.f51, code, lv⟩
def cuts : List Nat := [9, 19]
abbrev X (w0 : Base) (n : Nat) : XT := xr (cx w0) 19 lv n
theorem ok (w0 : Base) : FOK (cx w0) selvageref01_Join.id fe := ⟨Tryz.func51, by kernel_rfl, by kernel_rfl⟩
section
variable (Z : XT) (w0 : Base) (n : Nat) (R : RT) (σ : Store) (l_ b : AV) (i : Int)
def q5 : QT := thenQ (fun env σ => Z (cAt code 19) 19 (prune (lv 19) env) σ (finQ (cx w0) Tryz.f51 n R)) (finQ (cx w0) Tryz.f51 n R)
def q8 : QT := blockQ 0 (q5 Z w0 n R)
def q9 : QT := thenQ (fun env σ => Z (cAt code 8) 8 (prune (lv 8) env) σ (q8 Z w0 n R)) (q8 Z w0 n R)
def n8 : Prop :=
  Z (cAt code 8) 8 [(0, l_), (3, b), (4, (.pv (.int .i64 i)))] σ (q8 Z w0 n R)
def b9 : Prop :=
  pcodeX (cx w0) 19 lv n cuts Z (cAt code 9) 9 [(0, l_), (3, b), (4, (.pv (.int .i64 i)))] σ (q9 Z w0 n R)
def n19 : Prop :=
  Z (cAt code 19) 19 [(3, b)] σ (finQ (cx w0) Tryz.f51 n R)
def b19 : Prop :=
  pcodeX (cx w0) 19 lv n cuts Z (cAt code 19) 19 [(3, b)] σ (finQ (cx w0) Tryz.f51 n R)
def b0 : Prop :=
  pcodeX (cx w0) 19 lv n cuts Z code 0 (argsE 0 [l_]) σ (finQ (cx w0) Tryz.f51 n R)
end
variable {Z : XT} {w0 : Base} {n : Nat} {R : RT} {σ τ : Store} {l_ b l_' b' : AV} {i i' : Int}
theorem n8_in (h : b9 (X w0 n) w0 n R σ l_ b i) : n8 (X w0 n) w0 n R σ l_ b i := xr_round (cxOK w0) (S := cuts) (by kernel_rfl : cAt code 8 = .loop (cAt code 9)) @h
theorem n8_weak (e : EWeak (cx w0) n [(0, l_), (3, b), (4, (.pv (.int .i64 i)))] σ [(0, l_'), (3, b'), (4, (.pv (.int .i64 i')))] τ) (h : n8 (X w0 n) w0 n R τ l_' b' i') : n8 (X w0 n) w0 n R σ l_ b i := xr_weak (L := lv) (k := 8) (by kernel_rfl : cAt code 8 = .loop (cAt code 9)) @e @h
theorem b9_eq : b9 Z w0 n R σ l_ b i = (
  opt (aLen ti63.td l_) fun t7 => isI .i64 t7 fun t7_1 => condB (decide ((i : Int) < t7_1)) (opt (aIndexAddr σ tabS ti63.td l_ i) fun t14 => opt (aLoad σ ti9 t14) fun t15 => isS t15 fun t15_1 => opt2 (aAppend σ ti5 b (.pv (.str t15_1))) fun t16 σ' => n8 Z w0 n R σ' l_ t16 (IntKind.wrap .i64 (i + 1))) (n19 Z w0 n R σ b)) := by kernel_rfl
theorem b19_eq : b19 Z w0 n R σ b = (
  opt2 (aConvert σ tabS ti95.td ti9.td b) fun t18 σ' => isS t18 fun t18_1 => FinK (cx w0) n (.pv (.str t18_1)) σ' R) := by kernel_rfl
theorem n19_in (h : b19 (X w0 n) w0 n R σ b) : n19 (X w0 n) w0 n R σ b := xr_in (S := cuts) (by kernel_rfl) @h
theorem b0_eq : b0 Z w0 n R σ l_ = (
  n8 Z w0 n R σ l_ .nilsl 0) := by kernel_rfl
theorem calls (h : b0 (X w0 (List.length σ)) w0 (List.length σ) R σ l_) : SCalls (cx w0) selvageref01_Join.id [l_] σ R :=
  xr_enter (cxOK w0) (x := fe) (S := cuts) (selvageref01_Join.ok w0) (by kernel_rfl) @h
attribute [irreducible] n8 b9 n19 b19 b0
end selvageref01_Join
namespace selvageref01_Bare
def lvs : List (List Nat) := [[0], [0], [0], [0], [0], [0, 4], [0], [0], [2], [0], [0], [0], [2]]
def lv : Nat → List Nat := lvOf lvs
noncomputable def code : Code := bodyOf Tryz.f85
noncomputable def fe : FE := ⟨Tryz.f85, code, lv⟩
def cuts : List Nat := []
abbrev X (w0 : Base) (n : Nat) : XT := xr (cx w0) 11 lv n
theorem ok (w0 : Base) : FOK (cx w0) selvageref01_Bare.id fe := ⟨Tryz.func85, by kernel_rfl, by kernel_rfl⟩
section
variable (Z : XT) (w0 : Base) (n : Nat) (R : RT) (σ : Store) (line : List UInt8)
def b0 : Prop :=
  pcodeX (cx w0) 11 lv n cuts Z code 0 (argsE 0 [(.pv (.str line))]) σ (finQ (cx w0) Tryz.f85 n R)
end
variable {Z : XT} {w0 : Base} {n : Nat} {R : RT} {σ τ : Store} {line : List UInt8}
theorem b0_eq : b0 Z w0 n R σ line = (
  SCalls (cx w0) selvageref01_Whole.id [(.pv (.str line))] σ fun r σ' => isB r fun t4 => condB t4 (opt (aSlice σ' tabS ti9.td (.pv (.str line)) none (some (.pv (.int .i64 (IntKind.wrap .i64 ((List.length (line : List UInt8) : Int) - 1)))))) fun t9 => isS t9 fun t9_1 => FinK (cx w0) n (.pv (.str t9_1)) σ' R) (FinK (cx w0) n (.pv (.str line)) σ' R)) := by kernel_rfl
theorem calls (h : b0 (X w0 (List.length σ)) w0 (List.length σ) R σ line) : SCalls (cx w0) selvageref01_Bare.id [(.pv (.str line))] σ R :=
  xr_enter (cxOK w0) (x := fe) (S := cuts) (selvageref01_Bare.ok w0) (by kernel_rfl) @h
attribute [irreducible] b0
end selvageref01_Bare
end Go.Sv
