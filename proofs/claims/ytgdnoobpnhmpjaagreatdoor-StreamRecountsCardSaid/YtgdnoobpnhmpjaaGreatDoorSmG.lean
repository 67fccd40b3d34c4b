/- What the code of Go functions comes to over abstract stores, piece by piece; each equation by the kernel. Printed by a program of this session. -/
import Derived.Test.YtgdnoobpnhmpjaaGreatDoorSvT
import Derived.KernelRfl
set_option linter.unusedVariables false
set_option maxRecDepth 100000
namespace Go.Sv
open Go Go.Proofs
namespace stream_header
def lvs : List (List Nat) := [[0], [0], [0], [0], [2]]
def lv : Nat → List Nat := lvOf lvs
noncomputable def code : Code := bodyOf Tryz.f41
noncomputable def fe : FE := ⟨Tryz.f41, code, lv⟩
def cuts : List Nat := [4]
abbrev X (w0 : Base) (n : Nat) : XT := xr (cx w0) 18 lv n
theorem ok (w0 : Base) : FOK (cx w0) stream_header.id fe := ⟨Tryz.func41, by kernel_rfl, by kernel_rfl⟩
section
variable (Z : XT) (w0 : Base) (n : Nat) (R : RT) (σ : Store) (t2 : Bool) (l_ : AV)
def n4 : Prop :=
  Z (cAt code 4) 4 [(2, (.pv (.bool t2)))] σ (finQ (cx w0) Tryz.f41 n R)
def b4 : Prop :=
  pcodeX (cx w0) 18 lv n cuts Z (cAt code 4) 4 [(2, (.pv (.bool t2)))] σ (finQ (cx w0) Tryz.f41 n R)
def b0 : Prop :=
  pcodeX (cx w0) 18 lv n cuts Z code 0 (argsE 0 [l_]) σ (finQ (cx w0) Tryz.f41 n R)
end
variable {Z : XT} {w0 : Base} {n : Nat} {R : RT} {σ τ : Store} {t2 : Bool} {l_ : AV}
theorem b4_eq : b4 Z w0 n R σ t2 = (
  FinK (cx w0) n (.pv (.bool t2)) σ R) := by kernel_rfl
theorem n4_in (h : b4 (X w0 n) w0 n R σ t2) : n4 (X w0 n) w0 n R σ t2 := xr_in (S := cuts) (by kernel_rfl) @h
theorem b0_eq : b0 Z w0 n R σ l_ = (
  opt (aLen ti63.td l_) fun t4 => isI .i64 t4 fun t4_1 => condB (decide ((t4_1 : Int) > 1)) (opt (aIndexAddr σ tabS ti63.td l_ 0) fun t8 => opt (aLoad σ ti9 t8) fun t9 => isS t9 fun t9_1 => SCalls (cx w0) strings_HasPrefix.id [(.pv (.str t9_1)), (.pv (.str [45, 45, 45, 32]))] σ fun r σ' => isB r fun t10 => condB t10 (opt (aIndexAddr σ' tabS ti63.td l_ 1) fun t14 => opt (aLoad σ' ti9 t14) fun t15 => isS t15 fun t15_1 => SCalls (cx w0) strings_HasPrefix.id [(.pv (.str t15_1)), (.pv (.str [43, 43, 43, 32]))] σ' fun r_1 σ'_1 => isB r_1 fun t16 => n4 Z w0 n R σ'_1 t16) (n4 Z w0 n R σ' false)) (n4 Z w0 n R σ false)) := by kernel_rfl
theorem calls (h : b0 (X w0 (List.length σ)) w0 (List.length σ) R σ l_) : SCalls (cx w0) stream_header.id [l_] σ R :=
  xr_enter (cxOK w0) (x := fe) (S := cuts) (stream_header.ok w0) (by kernel_rfl) @h
attribute [irreducible] n4 b4 b0
end stream_header
namespace stream_first
def lvs : List (List Nat) := [[0], [0], [0], [0], [0, 6], [0, 6], [0, 6], [0, 16], [], [], [2, 3, 4, 5], [0], [0], [0], [0, 6, 7], [0, 6, 7], [0, 6, 7], [0, 6, 7, 23], [0, 7], [0, 6, 7], [0, 6, 7], [0, 6, 7], [0, 6, 7], [0, 7, 30], [], [], [2, 3, 4, 5], [0, 7], [0, 7], [0, 7], [0, 6, 7, 8], [0, 6, 7, 8], [0, 6, 7, 8], [0, 6, 7, 8, 37], [0, 7, 8], [0, 6, 7, 8], [0, 6, 7, 8], [0, 6, 7, 8], [2, 3, 4, 5]]
def lv : Nat → List Nat := lvOf lvs
noncomputable def code : Code := bodyOf Tryz.f42
noncomputable def fe : FE := ⟨Tryz.f42, code, lv⟩
def cuts : List Nat := [20, 36, 38]
abbrev X (w0 : Base) (n : Nat) : XT := xr (cx w0) 56 lv n
theorem ok (w0 : Base) : FOK (cx w0) stream_first.id fe := ⟨Tryz.func42, by kernel_rfl, by kernel_rfl⟩
section
variable (Z : XT) (w0 : Base) (n : Nat) (R : RT) (σ : Store) (s : List UInt8) (ok : Bool) (a b t2 t3 : Int) (t4 : List UInt8) (t5 : Bool)
def n20 : Prop :=
  Z (cAt code 20) 20 [(0, (.pv (.str s))), (6, (.pv (.bool ok))), (7, (.pv (.int .i64 a)))] σ (finQ (cx w0) Tryz.f42 n R)
def b20 : Prop :=
  pcodeX (cx w0) 56 lv n cuts Z (cAt code 20) 20 [(0, (.pv (.str s))), (6, (.pv (.bool ok))), (7, (.pv (.int .i64 a)))] σ (finQ (cx w0) Tryz.f42 n R)
def n36 : Prop :=
  Z (cAt code 36) 36 [(0, (.pv (.str s))), (6, (.pv (.bool ok))), (7, (.pv (.int .i64 a))), (8, (.pv (.int .i64 b)))] σ (finQ (cx w0) Tryz.f42 n R)
def b36 : Prop :=
  pcodeX (cx w0) 56 lv n cuts Z (cAt code 36) 36 [(0, (.pv (.str s))), (6, (.pv (.bool ok))), (7, (.pv (.int .i64 a))), (8, (.pv (.int .i64 b)))] σ (finQ (cx w0) Tryz.f42 n R)
def n38 : Prop :=
  Z (cAt code 38) 38 [(2, (.pv (.int .i64 t2))), (3, (.pv (.int .i64 t3))), (4, (.pv (.str t4))), (5, (.pv (.bool t5)))] σ (finQ (cx w0) Tryz.f42 n R)
def b38 : Prop :=
  pcodeX (cx w0) 56 lv n cuts Z (cAt code 38) 38 [(2, (.pv (.int .i64 t2))), (3, (.pv (.int .i64 t3))), (4, (.pv (.str t4))), (5, (.pv (.bool t5)))] σ (finQ (cx w0) Tryz.f42 n R)
def b0 : Prop :=
  pcodeX (cx w0) 56 lv n cuts Z code 0 (argsE 0 [(.pv (.str s))]) σ (finQ (cx w0) Tryz.f42 n R)
end
variable {Z : XT} {w0 : Base} {n : Nat} {R : RT} {σ τ : Store} {s t4 : List UInt8} {ok t5 : Bool} {a b t2 t3 : Int}
theorem b20_eq : b20 Z w0 n R σ s ok a = (
  condB (!ok) (FinK (cx w0) n (.tup [(.pv (.int .i64 0)), (.pv (.int .i64 0)), (.pv (.str [])), (.pv (.bool false))]) σ R) (SCalls (cx w0) stream_span.id [(.pv (.str s))] σ fun r σ' => isTup r fun vs => opt ((vs)[0]?) fun t34 => isI .i64 t34 fun t34_1 => isTup r fun vs_1 => opt ((vs_1)[1]?) fun t35 => isS t35 fun t35_1 => isTup r fun vs_2 => opt ((vs_2)[2]?) fun t36 => isB t36 fun t36_1 => condB t36_1 (SCalls (cx w0) strings_CutPrefix.id [(.pv (.str t35_1)), (.pv (.str [32, 64, 64]))] σ' fun r_1 σ'_1 => isTup r_1 fun vs_3 => opt ((vs_3)[0]?) fun t41 => isS t41 fun t41_1 => isTup r_1 fun vs_4 => opt ((vs_4)[1]?) fun t42 => isB t42 fun t42_1 => n36 Z w0 n R σ'_1 t41_1 t42_1 a t34_1) (n36 Z w0 n R σ' t35_1 t36_1 a t34_1))) := by kernel_rfl
theorem n20_in (h : b20 (X w0 n) w0 n R σ s ok a) : n20 (X w0 n) w0 n R σ s ok a := xr_in (S := cuts) (by kernel_rfl) @h
theorem b36_eq : b36 Z w0 n R σ s ok a b = (
  condB ok (condB ((s : List UInt8) == []) (n38 Z w0 n R σ a b s true) (opt (aIndex tabS ti9.td (.pv (.str s)) 0) fun t52 => isI .u8 t52 fun t52_1 => n38 Z w0 n R σ a b s ((t52_1 : Int) == 32))) (n38 Z w0 n R σ a b s false)) := by kernel_rfl
theorem n36_in (h : b36 (X w0 n) w0 n R σ s ok a b) : n36 (X w0 n) w0 n R σ s ok a b := xr_in (S := cuts) (by kernel_rfl) @h
theorem b38_eq : b38 Z w0 n R σ t2 t3 t4 t5 = (
  FinK (cx w0) n (.tup [(.pv (.int .i64 t2)), (.pv (.int .i64 t3)), (.pv (.str t4)), (.pv (.bool t5))]) σ R) := by kernel_rfl
theorem n38_in (h : b38 (X w0 n) w0 n R σ t2 t3 t4 t5) : n38 (X w0 n) w0 n R σ t2 t3 t4 t5 := xr_in (S := cuts) (by kernel_rfl) @h
theorem b0_eq : b0 Z w0 n R σ s = (
  SCalls (cx w0) lines_Bare.id [(.pv (.str s))] σ fun r σ' => isS r fun t11 => SCalls (cx w0) strings_CutPrefix.id [(.pv (.str t11)), (.pv (.str [64, 64, 32, 45]))] σ' fun r_1 σ'_1 => isTup r_1 fun vs => opt ((vs)[0]?) fun t13 => isS t13 fun t13_1 => isTup r_1 fun vs_1 => opt ((vs_1)[1]?) fun t14 => isB t14 fun t14_1 => condB (!t14_1) (FinK (cx w0) n (.tup [(.pv (.int .i64 0)), (.pv (.int .i64 0)), (.pv (.str [])), (.pv (.bool false))]) σ'_1 R) (SCalls (cx w0) stream_span.id [(.pv (.str t13_1))] σ'_1 fun r_2 σ'_2 => isTup r_2 fun vs_2 => opt ((vs_2)[0]?) fun t20 => isI .i64 t20 fun t20_1 => isTup r_2 fun vs_3 => opt ((vs_3)[1]?) fun t21 => isS t21 fun t21_1 => isTup r_2 fun vs_4 => opt ((vs_4)[2]?) fun t22 => isB t22 fun t22_1 => condB t22_1 (SCalls (cx w0) strings_CutPrefix.id [(.pv (.str t21_1)), (.pv (.str [32, 43]))] σ'_2 fun r_3 σ'_3 => isTup r_3 fun vs_5 => opt ((vs_5)[0]?) fun t27 => isS t27 fun t27_1 => isTup r_3 fun vs_6 => opt ((vs_6)[1]?) fun t28 => isB t28 fun t28_1 => n20 Z w0 n R σ'_3 t27_1 t28_1 t20_1) (n20 Z w0 n R σ'_2 t21_1 t22_1 t20_1))) := by kernel_rfl
theorem calls (h : b0 (X w0 (List.length σ)) w0 (List.length σ) R σ s) : SCalls (cx w0) stream_first.id [(.pv (.str s))] σ R :=
  xr_enter (cxOK w0) (x := fe) (S := cuts) (stream_first.ok w0) (by kernel_rfl) @h
attribute [irreducible] n20 b20 n36 b36 n38 b38 b0
end stream_first
namespace stream_rows
def lvs : List (List Nat) := [[0], [0], [0], [0], [0, 5, 6, 7], [0, 5, 6, 7], [0, 5, 6, 7], [0, 5, 6, 7], [0, 5, 6, 7], [0, 5, 6, 7], [0, 5, 6, 7, 18], [0, 5, 6, 7], [5, 6, 7], [0, 5, 6, 7], [0, 5, 6, 7], [0, 5, 6, 7], [0, 5, 6, 7], [0, 5, 6, 7, 23], [0, 5, 6, 7, 23], [0, 5, 6, 7, 23], [0, 5, 6, 7, 23], [0, 5, 6, 7, 23, 27], [0, 5, 6, 7, 23, 27], [0, 5, 6, 7, 23], [0, 5, 6, 7, 23, 27], [0, 5, 6, 7], [0, 5, 6, 7], [0, 5, 6, 7], [0, 5, 6, 7, 23], [0, 5, 6, 7, 23], [0, 5, 6, 7, 23, 34], [0, 5, 6, 7], [0, 5, 6, 7, 23], [0, 5, 6, 7, 23], [0, 5, 6, 7, 23, 38], [0, 5, 6, 7], [0, 5, 6, 7, 23], [0, 5, 6, 7, 23], [0, 5, 6, 7, 42], [0, 5, 6, 7], [5, 6, 7], [5, 6, 7], [2, 3, 4], [0, 5, 6, 7], [5, 6, 7], [5, 6, 7], [2, 3, 4]]
def lv : Nat → List Nat := lvOf lvs
noncomputable def code : Code := bodyOf Tryz.f43
noncomputable def fe : FE := ⟨Tryz.f43, code, lv⟩
def cuts : List Nat := [7, 10, 24, 43, 44]
abbrev X (w0 : Base) (n : Nat) : XT := xr (cx w0) 49 lv n
theorem ok (w0 : Base) : FOK (cx w0) stream_rows.id fe := ⟨Tryz.func43, by kernel_rfl, by kernel_rfl⟩
section
variable (Z : XT) (w0 : Base) (n : Nat) (R : RT) (σ : Store) (l_ : AV) (n_ old new_ : Int) (t18 : Bool) (t23 : Int) (t27 : Bool)
def q5 : QT := thenQ (fun env σ => Z (cAt code 44) 44 (prune (lv 44) env) σ (finQ (cx w0) Tryz.f43 n R)) (finQ (cx w0) Tryz.f43 n R)
def q6 : QT := blockQ 0 (q5 Z w0 n R)
def q7 : QT := thenQ (fun env σ => Z (cAt code 6) 6 (prune (lv 6) env) σ (q6 Z w0 n R)) (q6 Z w0 n R)
def q8 : QT := thenQ (fun env σ => pcodeX (cx w0) 49 lv n cuts Z (cAt code 13) 13 (prune (lv 13) env) σ (q7 Z w0 n R)) (q7 Z w0 n R)
def q14 : QT := blockQ 1 (q7 Z w0 n R)
def q15 : QT := thenQ (fun env σ => Z (cAt code 43) 43 (prune (lv 43) env) σ (q14 Z w0 n R)) (q14 Z w0 n R)
def q18 : QT := blockQ 2 (q15 Z w0 n R)
def n6 : Prop :=
  Z (cAt code 6) 6 [(0, l_), (5, (.pv (.int .i64 n_))), (6, (.pv (.int .i64 old))), (7, (.pv (.int .i64 new_)))] σ (q6 Z w0 n R)
def b7 : Prop :=
  pcodeX (cx w0) 49 lv n cuts Z (cAt code 7) 7 [(0, l_), (5, (.pv (.int .i64 n_))), (6, (.pv (.int .i64 old))), (7, (.pv (.int .i64 new_)))] σ (q7 Z w0 n R)
def n10 : Prop :=
  Z (cAt code 10) 10 [(0, l_), (5, (.pv (.int .i64 n_))), (6, (.pv (.int .i64 old))), (7, (.pv (.int .i64 new_))), (18, (.pv (.bool t18)))] σ (q8 Z w0 n R)
def b10 : Prop :=
  pcodeX (cx w0) 49 lv n cuts Z (cAt code 10) 10 [(0, l_), (5, (.pv (.int .i64 n_))), (6, (.pv (.int .i64 old))), (7, (.pv (.int .i64 new_))), (18, (.pv (.bool t18)))] σ (q8 Z w0 n R)
def n24 : Prop :=
  Z (cAt code 24) 24 [(0, l_), (5, (.pv (.int .i64 n_))), (6, (.pv (.int .i64 old))), (7, (.pv (.int .i64 new_))), (23, (.pv (.int .u8 t23))), (27, (.pv (.bool t27)))] σ (q18 Z w0 n R)
def b24 : Prop :=
  pcodeX (cx w0) 49 lv n cuts Z (cAt code 24) 24 [(0, l_), (5, (.pv (.int .i64 n_))), (6, (.pv (.int .i64 old))), (7, (.pv (.int .i64 new_))), (23, (.pv (.int .u8 t23))), (27, (.pv (.bool t27)))] σ (q18 Z w0 n R)
def n43 : Prop :=
  Z (cAt code 43) 43 [(0, l_), (5, (.pv (.int .i64 n_))), (6, (.pv (.int .i64 old))), (7, (.pv (.int .i64 new_)))] σ (q14 Z w0 n R)
def b43 : Prop :=
  pcodeX (cx w0) 49 lv n cuts Z (cAt code 43) 43 [(0, l_), (5, (.pv (.int .i64 n_))), (6, (.pv (.int .i64 old))), (7, (.pv (.int .i64 new_)))] σ (q14 Z w0 n R)
def n44 : Prop :=
  Z (cAt code 44) 44 [(5, (.pv (.int .i64 n_))), (6, (.pv (.int .i64 old))), (7, (.pv (.int .i64 new_)))] σ (finQ (cx w0) Tryz.f43 n R)
def b44 : Prop :=
  pcodeX (cx w0) 49 lv n cuts Z (cAt code 44) 44 [(5, (.pv (.int .i64 n_))), (6, (.pv (.int .i64 old))), (7, (.pv (.int .i64 new_)))] σ (finQ (cx w0) Tryz.f43 n R)
def b0 : Prop :=
  pcodeX (cx w0) 49 lv n cuts Z code 0 (argsE 0 [l_]) σ (finQ (cx w0) Tryz.f43 n R)
end
variable {Z : XT} {w0 : Base} {n : Nat} {R : RT} {σ τ : Store} {l_ l_' : AV} {n_ old new_ t23 n_' old' new_' : Int} {t18 t27 : Bool}
theorem n6_in (h : b7 (X w0 n) w0 n R σ l_ n_ old new_) : n6 (X w0 n) w0 n R σ l_ n_ old new_ := xr_round (cxOK w0) (S := cuts) (by kernel_rfl : cAt code 6 = .loop (cAt code 7)) @h
theorem b7_eq : b7 Z w0 n R σ l_ n_ old new_ = (
  opt (aLen ti63.td l_) fun t10 => isI .i64 t10 fun t10_1 => condB (decide ((n_ : Int) < t10_1)) (opt (aSlice σ tabS ti63.td l_ (some (.pv (.int .i64 n_))) none) fun t15 => SCalls (cx w0) stream_header.id [t15] σ fun r σ' => isB r fun t16 => n10 Z w0 n R σ' l_ n_ old new_ (!t16)) (n10 Z w0 n R σ l_ n_ old new_ false)) := by kernel_rfl
theorem b10_eq : b10 Z w0 n R σ l_ n_ old new_ t18 = (
  condB t18 (opt (aIndexAddr σ tabS ti63.td l_ n_) fun t21 => opt (aLoad σ ti9 t21) fun t22 => isS t22 fun t22_1 => opt (aIndex tabS ti9.td (.pv (.str t22_1)) 0) fun t23 => isI .u8 t23 fun t23_1 => condB ((t23_1 : Int) == 32) (n24 Z w0 n R σ l_ n_ old new_ t23_1 ((t23_1 : Int) == 32)) (n24 Z w0 n R σ l_ n_ old new_ t23_1 ((t23_1 : Int) == 10))) (n44 Z w0 n R σ n_ old new_)) := by kernel_rfl
theorem n10_in (h : b10 (X w0 n) w0 n R σ l_ n_ old new_ t18) : n10 (X w0 n) w0 n R σ l_ n_ old new_ t18 := xr_in (S := cuts) (by kernel_rfl) @h
theorem b24_eq : b24 Z w0 n R σ l_ n_ old new_ t23 t27 = (
  condB t27 (n43 Z w0 n R σ l_ n_ (IntKind.wrap .i64 (old + 1)) (IntKind.wrap .i64 (new_ + 1))) (condB ((t23 : Int) == 45) (n43 Z w0 n R σ l_ n_ (IntKind.wrap .i64 (old + 1)) new_) (condB ((t23 : Int) == 43) (n43 Z w0 n R σ l_ n_ old (IntKind.wrap .i64 (new_ + 1))) (condB ((t23 : Int) == 92) (n43 Z w0 n R σ l_ n_ old new_) (FinK (cx w0) n (.tup [(.pv (.int .i64 n_)), (.pv (.int .i64 old)), (.pv (.int .i64 new_))]) σ R))))) := by kernel_rfl
theorem n24_in (h : b24 (X w0 n) w0 n R σ l_ n_ old new_ t23 t27) : n24 (X w0 n) w0 n R σ l_ n_ old new_ t23 t27 := xr_in (S := cuts) (by kernel_rfl) @h
theorem b43_eq : b43 Z w0 n R σ l_ n_ old new_ = (
  n6 Z w0 n R σ l_ (IntKind.wrap .i64 (n_ + 1)) old new_) := by kernel_rfl
theorem n43_in (h : b43 (X w0 n) w0 n R σ l_ n_ old new_) : n43 (X w0 n) w0 n R σ l_ n_ old new_ := xr_in (S := cuts) (by kernel_rfl) @h
theorem b44_eq : b44 Z w0 n R σ n_ old new_ = (
  FinK (cx w0) n (.tup [(.pv (.int .i64 n_)), (.pv (.int .i64 old)), (.pv (.int .i64 new_))]) σ R) := by kernel_rfl
theorem n44_in (h : b44 (X w0 n) w0 n R σ n_ old new_) : n44 (X w0 n) w0 n R σ n_ old new_ := xr_in (S := cuts) (by kernel_rfl) @h
theorem b0_eq : b0 Z w0 n R σ l_ = (
  n6 Z w0 n R σ l_ 0 0 0) := by kernel_rfl
theorem calls (h : b0 (X w0 (List.length σ)) w0 (List.length σ) R σ l_) : SCalls (cx w0) stream_rows.id [l_] σ R :=
  xr_enter (cxOK w0) (x := fe) (S := cuts) (stream_rows.ok w0) (by kernel_rfl) @h
attribute [irreducible] n6 b7 n10 b10 n24 b24 n43 b43 n44 b44 b0
end stream_rows
namespace stream_span
def lvs : List (List Nat) := [[0], [0], [0], [0], [0, 5, 6], [0, 5, 6], [0, 5, 6], [0, 5, 18], [], [], [2, 3, 4], [0, 5], [0, 5], [0, 5], [5, 7, 8, 9], [5, 7, 8, 9], [5, 7, 8, 9], [5, 7, 41], [], [], [2, 3, 4], [5, 7], [5, 7], [5, 7], [5, 10], [5, 10], [2, 3, 4]]
def lv : Nat → List Nat := lvOf lvs
noncomputable def code : Code := bodyOf Tryz.f80
noncomputable def fe : FE := ⟨Tryz.f80, code, lv⟩
def cuts : List Nat := [17]
abbrev X (w0 : Base) (n : Nat) : XT := xr (cx w0) 49 lv n
theorem ok (w0 : Base) : FOK (cx w0) stream_span.id fe := ⟨Tryz.func80, by kernel_rfl, by kernel_rfl⟩
section
variable (Z : XT) (w0 : Base) (n : Nat) (R : RT) (σ : Store) (rest first : List UInt8) (t41 : Bool) (s : List UInt8)
def q15 : QT := thenQ (fun env σ => pcodeX (cx w0) 49 lv n cuts Z (cAt code 22) 22 (prune (lv 22) env) σ (finQ (cx w0) Tryz.f80 n R)) (finQ (cx w0) Tryz.f80 n R)
def n17 : Prop :=
  Z (cAt code 17) 17 [(5, (.pv (.str rest))), (7, (.pv (.str first))), (41, (.pv (.bool t41)))] σ (q15 Z w0 n R)
def b17 : Prop :=
  pcodeX (cx w0) 49 lv n cuts Z (cAt code 17) 17 [(5, (.pv (.str rest))), (7, (.pv (.str first))), (41, (.pv (.bool t41)))] σ (q15 Z w0 n R)
def b0 : Prop :=
  pcodeX (cx w0) 49 lv n cuts Z code 0 (argsE 0 [(.pv (.str s))]) σ (finQ (cx w0) Tryz.f80 n R)
end
variable {Z : XT} {w0 : Base} {n : Nat} {R : RT} {σ τ : Store} {rest first s : List UInt8} {t41 : Bool}
theorem b17_eq : b17 Z w0 n R σ rest first t41 = (
  condB t41 (FinK (cx w0) n (.tup [(.pv (.int .i64 0)), (.pv (.str [])), (.pv (.bool false))]) σ R) (SCalls (cx w0) strconv_Atoi.id [(.pv (.str first))] σ fun r σ' => isTup r fun vs => opt ((vs)[0]?) fun t45 => isI .i64 t45 fun t45_1 => isTup r fun vs_1 => opt ((vs_1)[1]?) fun t46 => FinK (cx w0) n (.tup [(.pv (.int .i64 t45_1)), (.pv (.str rest)), (.pv (.bool true))]) σ' R)) := by kernel_rfl
theorem n17_in (h : b17 (X w0 n) w0 n R σ rest first t41) : n17 (X w0 n) w0 n R σ rest first t41 := xr_in (S := cuts) (by kernel_rfl) @h
theorem b0_eq : b0 Z w0 n R σ s = (
  SCalls (cx w0) stream_numbers.id [(.pv (.str s))] σ fun r σ' => isTup r fun vs => opt ((vs)[0]?) fun t15 => isS t15 fun t15_1 => isTup r fun vs_1 => opt ((vs_1)[1]?) fun t16 => isB t16 fun t16_1 => condB (!t16_1) (FinK (cx w0) n (.tup [(.pv (.int .i64 0)), (.pv (.str [])), (.pv (.bool false))]) σ' R) (opt (aSlice σ' tabS ti9.td (.pv (.str s)) none (some (.pv (.int .i64 (IntKind.wrap .i64 ((List.length (s : List UInt8) : Int) - (List.length (t15_1 : List UInt8) : Int))))))) fun t26 => isS t26 fun t26_1 => SCalls (cx w0) strings_Cut.id [(.pv (.str t26_1)), (.pv (.str [44]))] σ' fun r_1 σ'_1 => isTup r_1 fun vs_2 => opt ((vs_2)[0]?) fun t28 => isS t28 fun t28_1 => isTup r_1 fun vs_3 => opt ((vs_3)[1]?) fun t29 => isS t29 fun t29_1 => isTup r_1 fun vs_4 => opt ((vs_4)[2]?) fun t30 => isB t30 fun t30_1 => SCalls (cx w0) stream_small.id [(.pv (.str t28_1))] σ'_1 fun r_2 σ'_2 => isB r_2 fun t32 => condB (!t32) (n17 Z w0 n R σ'_2 t15_1 t28_1 true) (condB t30_1 (SCalls (cx w0) stream_small.id [(.pv (.str t29_1))] σ'_2 fun r_3 σ'_3 => isB r_3 fun t38 => n17 Z w0 n R σ'_3 t15_1 t28_1 (!t38)) (n17 Z w0 n R σ'_2 t15_1 t28_1 false)))) := by kernel_rfl
theorem calls (h : b0 (X w0 (List.length σ)) w0 (List.length σ) R σ s) : SCalls (cx w0) stream_span.id [(.pv (.str s))] σ R :=
  xr_enter (cxOK w0) (x := fe) (S := cuts) (stream_span.ok w0) (by kernel_rfl) @h
attribute [irreducible] n17 b17 b0
end stream_span
namespace stream_small
def lvs : List (List Nat) := [[0], [0], [0], [0], [0], [0], [0], [0, 9], [], [], [2], [0], [0], [0], [3], [3], [2]]
def lv : Nat → List Nat := lvOf lvs
noncomputable def code : Code := bodyOf Tryz.f123
noncomputable def fe : FE := ⟨Tryz.f123, code, lv⟩
def cuts : List Nat := []
abbrev X (w0 : Base) (n : Nat) : XT := xr (cx w0) 18 lv n
theorem ok (w0 : Base) : FOK (cx w0) stream_small.id fe := ⟨Tryz.func123, by kernel_rfl, by kernel_rfl⟩
section
variable (Z : XT) (w0 : Base) (n : Nat) (R : RT) (σ : Store) (s : List UInt8)
def b0 : Prop :=
  pcodeX (cx w0) 18 lv n cuts Z code 0 (argsE 0 [(.pv (.str s))]) σ (finQ (cx w0) Tryz.f123 n R)
end
variable {Z : XT} {w0 : Base} {n : Nat} {R : RT} {σ τ : Store} {s : List UInt8}
theorem b0_eq : b0 Z w0 n R σ s = (
  SCalls (cx w0) strings_TrimLeft.id [(.pv (.str s)), (.pv (.str [48]))] σ fun r σ' => isS r fun t6 => condB (decide (((List.length (t6 : List UInt8) : Int) : Int) > 10)) (FinK (cx w0) n (.pv (.bool false)) σ' R) ((List.length ([48] : List UInt8) + List.length (t6 : List UInt8) ≤ 9223372036854775807 ∧ (SCalls (cx w0) strconv_Atoi.id [(.pv (.str ([48] ++ t6)))] σ' fun r_1 σ'_1 => isTup r_1 fun vs => opt ((vs)[0]?) fun t14 => isI .i64 t14 fun t14_1 => isTup r_1 fun vs_1 => opt ((vs_1)[1]?) fun t15 => FinK (cx w0) n (.pv (.bool (decide ((t14_1 : Int) ≤ 2147483647)))) σ'_1 R)))) := by kernel_rfl
theorem calls (h : b0 (X w0 (List.length σ)) w0 (List.length σ) R σ s) : SCalls (cx w0) stream_small.id [(.pv (.str s))] σ R :=
  xr_enter (cxOK w0) (x := fe) (S := cuts) (stream_small.ok w0) (by kernel_rfl) @h
attribute [irreducible] b0
end stream_small
namespace stream_numbers
def lvs : List (List Nat) := [[0], [0], [0], [0], [4, 5], [4, 5], [4, 5], [4, 5, 6, 7], [4, 5, 6, 7], [4, 5, 6, 21], [6], [6], [2, 3], [4, 5], [4, 5], [4, 5], [2, 3]]
def lv : Nat → List Nat := lvOf lvs
noncomputable def code : Code := bodyOf Tryz.f90
noncomputable def fe : FE := ⟨Tryz.f90, code, lv⟩
def cuts : List Nat := [9]
abbrev X (w0 : Base) (n : Nat) : XT := xr (cx w0) 28 lv n
theorem ok (w0 : Base) : FOK (cx w0) stream_numbers.id fe := ⟨Tryz.func90, by kernel_rfl, by kernel_rfl⟩
section
variable (Z : XT) (w0 : Base) (n : Nat) (R : RT) (σ : Store) (rest : List UInt8) (ok : Bool) (more : List UInt8) (t21 : Bool) (s : List UInt8)
def q5 : QT := thenQ (fun env σ => pcodeX (cx w0) 28 lv n cuts Z (cAt code 14) 14 (prune (lv 14) env) σ (finQ (cx w0) Tryz.f90 n R)) (finQ (cx w0) Tryz.f90 n R)
def n9 : Prop :=
  Z (cAt code 9) 9 [(4, (.pv (.str rest))), (5, (.pv (.bool ok))), (6, (.pv (.str more))), (21, (.pv (.bool t21)))] σ (q5 Z w0 n R)
def b9 : Prop :=
  pcodeX (cx w0) 28 lv n cuts Z (cAt code 9) 9 [(4, (.pv (.str rest))), (5, (.pv (.bool ok))), (6, (.pv (.str more))), (21, (.pv (.bool t21)))] σ (q5 Z w0 n R)
def b0 : Prop :=
  pcodeX (cx w0) 28 lv n cuts Z code 0 (argsE 0 [(.pv (.str s))]) σ (finQ (cx w0) Tryz.f90 n R)
end
variable {Z : XT} {w0 : Base} {n : Nat} {R : RT} {σ τ : Store} {rest more s : List UInt8} {ok t21 : Bool}
theorem b9_eq : b9 Z w0 n R σ rest ok more t21 = (
  condB t21 (SCalls (cx w0) stream_digits.id [(.pv (.str more))] σ fun r σ' => isTup r fun vs => opt ((vs)[0]?) fun t24 => isS t24 fun t24_1 => isTup r fun vs_1 => opt ((vs_1)[1]?) fun t25 => isB t25 fun t25_1 => FinK (cx w0) n (.tup [(.pv (.str t24_1)), (.pv (.bool t25_1))]) σ' R) (FinK (cx w0) n (.tup [(.pv (.str rest)), (.pv (.bool ok))]) σ R)) := by kernel_rfl
theorem n9_in (h : b9 (X w0 n) w0 n R σ rest ok more t21) : n9 (X w0 n) w0 n R σ rest ok more t21 := xr_in (S := cuts) (by kernel_rfl) @h
theorem b0_eq : b0 Z w0 n R σ s = (
  SCalls (cx w0) stream_digits.id [(.pv (.str s))] σ fun r σ' => isTup r fun vs => opt ((vs)[0]?) fun t11 => isS t11 fun t11_1 => isTup r fun vs_1 => opt ((vs_1)[1]?) fun t12 => isB t12 fun t12_1 => SCalls (cx w0) strings_CutPrefix.id [(.pv (.str t11_1)), (.pv (.str [44]))] σ' fun r_1 σ'_1 => isTup r_1 fun vs_2 => opt ((vs_2)[0]?) fun t16 => isS t16 fun t16_1 => isTup r_1 fun vs_3 => opt ((vs_3)[1]?) fun t17 => isB t17 fun t17_1 => condB t12_1 (n9 Z w0 n R σ'_1 t11_1 t12_1 t16_1 t17_1) (n9 Z w0 n R σ'_1 t11_1 t12_1 t16_1 false)) := by kernel_rfl
theorem calls (h : b0 (X w0 (List.length σ)) w0 (List.length σ) R σ s) : SCalls (cx w0) stream_numbers.id [(.pv (.str s))] σ R :=
  xr_enter (cxOK w0) (x := fe) (S := cuts) (stream_numbers.ok w0) (by kernel_rfl) @h
attribute [irreducible] n9 b9 b0
end stream_numbers
namespace stream_digits
def lvs : List (List Nat) := [[0], [0], [0], [0], [0, 4], [0, 4], [2, 3]]
def lv : Nat → List Nat := lvOf lvs
noncomputable def code : Code := bodyOf Tryz.f91
noncomputable def fe : FE := ⟨Tryz.f91, code, lv⟩
def cuts : List Nat := []
abbrev X (w0 : Base) (n : Nat) : XT := xr (cx w0) 13 lv n
theorem ok (w0 : Base) : FOK (cx w0) stream_digits.id fe := ⟨Tryz.func91, by kernel_rfl, by kernel_rfl⟩
section
variable (Z : XT) (w0 : Base) (n : Nat) (R : RT) (σ : Store) (s : List UInt8)
def b0 : Prop :=
  pcodeX (cx w0) 13 lv n cuts Z code 0 (argsE 0 [(.pv (.str s))]) σ (finQ (cx w0) Tryz.f91 n R)
end
variable {Z : XT} {w0 : Base} {n : Nat} {R : RT} {σ τ : Store} {s : List UInt8}
theorem b0_eq : b0 Z w0 n R σ s = (
  SCalls (cx w0) strings_TrimLeft.id [(.pv (.str s)), (.pv (.str [48, 49, 50, 51, 52, 53, 54, 55, 56, 57]))] σ fun r σ' => isS r fun t6 => FinK (cx w0) n (.tup [(.pv (.str t6)), (.pv (.bool (decide (((List.length (t6 : List UInt8) : Int) : Int) < (List.length (s : List UInt8) : Int)))))]) σ' R) := by kernel_rfl
theorem calls (h : b0 (X w0 (List.length σ)) w0 (List.length σ) R σ s) : SCalls (cx w0) stream_digits.id [(.pv (.str s))] σ R :=
  xr_enter (cxOK w0) (x := fe) (S := cuts) (stream_digits.ok w0) (by kernel_rfl) @h
attribute [irreducible] b0
end stream_digits
namespace stream_ranged
def lvs : List (List Nat) := [[0, 1], [0, 1], [0, 1], [0, 1], [0, 1], [0, 1, 6], [0], [0], [4], [0, 1], [0, 1], [0, 1], [4]]
def lv : Nat → List Nat := lvOf lvs
noncomputable def code : Code := bodyOf Tryz.f45
noncomputable def fe : FE := ⟨Tryz.f45, code, lv⟩
def cuts : List Nat := []
abbrev X (w0 : Base) (n : Nat) : XT := xr (cx w0) 15 lv n
theorem ok (w0 : Base) : FOK (cx w0) stream_ranged.id fe := ⟨Tryz.func45, by kernel_rfl, by kernel_rfl⟩
section
variable (Z : XT) (w0 : Base) (n : Nat) (R : RT) (σ : Store) (at_ count : Int)
def b0 : Prop :=
  pcodeX (cx w0) 15 lv n cuts Z code 0 (argsE 0 [(.pv (.int .i64 at_)), (.pv (.int .i64 count))]) σ (finQ (cx w0) Tryz.f45 n R)
end
variable {Z : XT} {w0 : Base} {n : Nat} {R : RT} {σ τ : Store} {at_ count : Int}
theorem b0_eq : b0 Z w0 n R σ at_ count = (
  condB ((count : Int) == 1) (SCalls (cx w0) strconv_Itoa.id [(.pv (.int .i64 at_))] σ fun r σ' => isS r fun t8 => FinK (cx w0) n (.pv (.str t8)) σ' R) (SCalls (cx w0) strconv_Itoa.id [(.pv (.int .i64 at_))] σ fun r σ' => isS r fun t10 => (List.length (t10 : List UInt8) + List.length ([44] : List UInt8) ≤ 9223372036854775807 ∧ (SCalls (cx w0) strconv_Itoa.id [(.pv (.int .i64 count))] σ' fun r_1 σ'_1 => isS r_1 fun t13 => (List.length ((t10 ++ [44]) : List UInt8) + List.length (t13 : List UInt8) ≤ 9223372036854775807 ∧ (FinK (cx w0) n (.pv (.str ((t10 ++ [44]) ++ t13))) σ'_1 R)))))) := by kernel_rfl
theorem calls (h : b0 (X w0 (List.length σ)) w0 (List.length σ) R σ at_ count) : SCalls (cx w0) stream_ranged.id [(.pv (.int .i64 at_)), (.pv (.int .i64 count))] σ R :=
  xr_enter (cxOK w0) (x := fe) (S := cuts) (stream_ranged.ok w0) (by kernel_rfl) @h
attribute [irreducible] b0
end stream_ranged
namespace stream_Recount
def lvs : List (List Nat) := [[0], [0], [0], [0], [0], [0, 17], [], [], [2, 3], [0], [0], [0], [4], [4], [4, 5], [4, 5], [4, 5], [4, 5, 6], [4, 5, 6], [4, 5, 6], [4, 5, 6], [4, 5, 6], [4, 5, 6, 24], [4, 5, 6], [4], [4, 5, 6], [4, 5, 6], [4, 5, 6], [4, 5, 6], [4, 5, 6, 28], [4, 6], [4, 6], [4, 5, 6], [4, 5, 6], [4, 5, 6], [4, 5, 6], [4, 5, 6], [4, 5, 6], [4, 5, 6, 7, 8, 9, 10], [4, 5, 6, 7, 8, 9, 10], [4, 5, 6, 7, 8, 9, 10], [4, 5, 6, 7, 8, 9, 46], [4, 6], [4, 6], [4, 5, 6], [4, 5, 6], [4, 5, 6], [4, 5, 6, 7, 8, 9], [4, 5, 6, 7, 8, 9], [4, 5, 6, 7, 8, 9], [4, 5, 6, 7, 8, 9, 11, 12, 13], [4, 5, 6, 7, 8, 9, 11, 12, 13], [4, 5, 6, 7, 8, 9, 11, 12, 13, 14], [4, 5, 6, 7, 8, 9, 11, 12, 13, 14], [4, 5, 6, 11], [4], [4], [2, 3]]
def lv : Nat → List Nat := lvOf lvs
noncomputable def code : Code := bodyOf Tryz.f19
noncomputable def fe : FE := ⟨Tryz.f19, code, lv⟩
def cuts : List Nat := [19, 41, 55]
abbrev X (w0 : Base) (n : Nat) : XT := xr (cx w0) 92 lv n
theorem ok (w0 : Base) : FOK (cx w0) stream_Recount.id fe := ⟨Tryz.func19, by kernel_rfl, by kernel_rfl⟩
section
variable (Z : XT) (w0 : Base) (n : Nat) (R : RT) (σ : Store) (l_ : AV) (in_ : Bool) (i a b : Int) (rest : List UInt8) (t46 : Bool) (text : List UInt8)
def q15 : QT := thenQ (fun env σ => Z (cAt code 55) 55 (prune (lv 55) env) σ (finQ (cx w0) Tryz.f19 n R)) (finQ (cx w0) Tryz.f19 n R)
def q18 : QT := blockQ 0 (q15 Z w0 n R)
def q19 : QT := thenQ (fun env σ => Z (cAt code 18) 18 (prune (lv 18) env) σ (q18 Z w0 n R)) (q18 Z w0 n R)
def q26 : QT := blockQ 1 (q19 Z w0 n R)
def q39 : QT := thenQ (fun env σ => pcodeX (cx w0) 92 lv n cuts Z (cAt code 48) 48 (prune (lv 48) env) σ (q26 Z w0 n R)) (q26 Z w0 n R)
def n18 : Prop :=
  Z (cAt code 18) 18 [(4, l_), (5, (.pv (.bool in_))), (6, (.pv (.int .i64 i)))] σ (q18 Z w0 n R)
def b19 : Prop :=
  pcodeX (cx w0) 92 lv n cuts Z (cAt code 19) 19 [(4, l_), (5, (.pv (.bool in_))), (6, (.pv (.int .i64 i)))] σ (q19 Z w0 n R)
def n41 : Prop :=
  Z (cAt code 41) 41 [(4, l_), (5, (.pv (.bool in_))), (6, (.pv (.int .i64 i))), (7, (.pv (.int .i64 a))), (8, (.pv (.int .i64 b))), (9, (.pv (.str rest))), (46, (.pv (.bool t46)))] σ (q39 Z w0 n R)
def b41 : Prop :=
  pcodeX (cx w0) 92 lv n cuts Z (cAt code 41) 41 [(4, l_), (5, (.pv (.bool in_))), (6, (.pv (.int .i64 i))), (7, (.pv (.int .i64 a))), (8, (.pv (.int .i64 b))), (9, (.pv (.str rest))), (46, (.pv (.bool t46)))] σ (q39 Z w0 n R)
def n55 : Prop :=
  Z (cAt code 55) 55 [(4, l_)] σ (finQ (cx w0) Tryz.f19 n R)
def b55 : Prop :=
  pcodeX (cx w0) 92 lv n cuts Z (cAt code 55) 55 [(4, l_)] σ (finQ (cx w0) Tryz.f19 n R)
def b0 : Prop :=
  pcodeX (cx w0) 92 lv n cuts Z code 0 (argsE 0 [(.pv (.str text))]) σ (finQ (cx w0) Tryz.f19 n R)
end
variable {Z : XT} {w0 : Base} {n : Nat} {R : RT} {σ τ : Store} {l_ l_' : AV} {in_ t46 in_' : Bool} {i a b i' : Int} {rest text : List UInt8}
theorem n18_in (h : b19 (X w0 n) w0 n R σ l_ in_ i) : n18 (X w0 n) w0 n R σ l_ in_ i := xr_round (cxOK w0) (S := cuts) (by kernel_rfl : cAt code 18 = .loop (cAt code 19)) @h
theorem b19_eq : b19 Z w0 n R σ l_ in_ i = (
  opt (aLen ti63.td l_) fun t23 => isI .i64 t23 fun t23_1 => condB (decide ((i : Int) < t23_1)) (opt (aSlice σ tabS ti63.td l_ (some (.pv (.int .i64 i))) none) fun t27 => SCalls (cx w0) stream_header.id [t27] σ fun r σ' => isB r fun t28 => condB t28 (n18 Z w0 n R σ' l_ true (IntKind.wrap .i64 (i + 2))) (opt (aIndexAddr σ' tabS ti63.td l_ i) fun t34 => opt (aLoad σ' ti9 t34) fun t35 => isS t35 fun t35_1 => SCalls (cx w0) stream_first.id [(.pv (.str t35_1))] σ' fun r_1 σ'_1 => isTup r_1 fun vs => opt ((vs)[0]?) fun t37 => isI .i64 t37 fun t37_1 => isTup r_1 fun vs_1 => opt ((vs_1)[1]?) fun t38 => isI .i64 t38 fun t38_1 => isTup r_1 fun vs_2 => opt ((vs_2)[2]?) fun t39 => isS t39 fun t39_1 => isTup r_1 fun vs_3 => opt ((vs_3)[3]?) fun t40 => isB t40 fun t40_1 => condB (!in_) (n41 Z w0 n R σ'_1 l_ in_ i t37_1 t38_1 t39_1 true) (n41 Z w0 n R σ'_1 l_ in_ i t37_1 t38_1 t39_1 (!t40_1)))) (n55 Z w0 n R σ l_)) := by kernel_rfl
theorem b41_eq : b41 Z w0 n R σ l_ in_ i a b rest t46 = (
  condB t46 (n18 Z w0 n R σ l_ false (IntKind.wrap .i64 (i + 1))) (opt (aSlice σ tabS ti63.td l_ (some (.pv (.int .i64 (IntKind.wrap .i64 (i + 1))))) none) fun t53 => SCalls (cx w0) stream_rows.id [t53] σ fun r σ' => isTup r fun vs => opt ((vs)[0]?) fun t55 => isI .i64 t55 fun t55_1 => isTup r fun vs_1 => opt ((vs_1)[1]?) fun t56 => isI .i64 t56 fun t56_1 => isTup r fun vs_2 => opt ((vs_2)[2]?) fun t57 => isI .i64 t57 fun t57_1 => opt (aIndexAddr σ' tabS ti63.td l_ i) fun t60 => opt (aLoad σ' ti9 t60) fun t61 => isS t61 fun t61_1 => opt (aIndexAddr σ' tabS ti63.td l_ i) fun t64 => opt (aLoad σ' ti9 t64) fun t65 => isS t65 fun t65_1 => SCalls (cx w0) lines_Bare.id [(.pv (.str t65_1))] σ' fun r_1 σ'_1 => isS r_1 fun t66 => ((opt (aIndexAddr σ'_1 tabS ti63.td l_ i) fun t60_1 => ((t60_1 : AV) = t60)) ∧ (((opt (aLoad σ'_1 ti9 t60) fun t61_2 => ((t61_2 : AV) = (.pv (.str t61_1)))) ∧ (opt (aSlice σ'_1 tabS ti9.td (.pv (.str t61_1)) (some (.pv (.int .i64 (List.length (t66 : List UInt8) : Int)))) none) fun t68 => isS t68 fun t68_1 => SCalls (cx w0) stream_ranged.id [(.pv (.int .i64 a)), (.pv (.int .i64 t56_1))] σ'_1 fun r_2 σ'_2 => isS r_2 fun t73 => (List.length ([64, 64, 32, 45] : List UInt8) + List.length (t73 : List UInt8) ≤ 9223372036854775807 ∧ ((List.length (([64, 64, 32, 45] ++ t73) : List UInt8) + List.length ([32, 43] : List UInt8) ≤ 9223372036854775807 ∧ (SCalls (cx w0) stream_ranged.id [(.pv (.int .i64 b)), (.pv (.int .i64 t57_1))] σ'_2 fun r_3 σ'_3 => isS r_3 fun t78 => (List.length ((([64, 64, 32, 45] ++ t73) ++ [32, 43]) : List UInt8) + List.length (t78 : List UInt8) ≤ 9223372036854775807 ∧ ((List.length (((([64, 64, 32, 45] ++ t73) ++ [32, 43]) ++ t78) : List UInt8) + List.length ([32, 64, 64] : List UInt8) ≤ 9223372036854775807 ∧ ((List.length ((((([64, 64, 32, 45] ++ t73) ++ [32, 43]) ++ t78) ++ [32, 64, 64]) : List UInt8) + List.length (rest : List UInt8) ≤ 9223372036854775807 ∧ ((List.length (((((([64, 64, 32, 45] ++ t73) ++ [32, 43]) ++ t78) ++ [32, 64, 64]) ++ rest) : List UInt8) + List.length (t68_1 : List UInt8) ≤ 9223372036854775807 ∧ (opt (aIndexAddr σ'_3 tabS ti63.td l_ i) fun t85 => opt (aStore σ'_3 ti9 t85 (.pv (.str (((((([64, 64, 32, 45] ++ t73) ++ [32, 43]) ++ t78) ++ [32, 64, 64]) ++ rest) ++ t68_1)))) fun σ'_4 => n18 Z w0 n R σ'_4 l_ in_ (IntKind.wrap .i64 (i + (IntKind.wrap .i64 (t55_1 + 1)))))))))))))))))))))) := by kernel_rfl
theorem n41_in (h : b41 (X w0 n) w0 n R σ l_ in_ i a b rest t46) : n41 (X w0 n) w0 n R σ l_ in_ i a b rest t46 := xr_in (S := cuts) (by kernel_rfl) @h
theorem b55_eq : b55 Z w0 n R σ l_ = (
  SCalls (cx w0) lines_Join.id [l_] σ fun r σ' => isS r fun t91 => FinK (cx w0) n (.tup [(.pv (.str t91)), (.pv (.raw .nilIface))]) σ' R) := by kernel_rfl
theorem n55_in (h : b55 (X w0 n) w0 n R σ l_) : n55 (X w0 n) w0 n R σ l_ := xr_in (S := cuts) (by kernel_rfl) @h
theorem b0_eq : b0 Z w0 n R σ text = (
  condB (decide (((List.length (text : List UInt8) : Int) : Int) > 4194304)) (opt (aMakeInterface 61 (.pv (.int .i64 2))) fun t18 => FinK (cx w0) n (.tup [(.pv (.str [])), t18]) σ R) (SCalls (cx w0) lines_Split.id [(.pv (.str text))] σ fun r σ' => n18 Z w0 n R σ' r false 0)) := by kernel_rfl
theorem calls (h : b0 (X w0 (List.length σ)) w0 (List.length σ) R σ text) : SCalls (cx w0) stream_Recount.id [(.pv (.str text))] σ R :=
  xr_enter (cxOK w0) (x := fe) (S := cuts) (stream_Recount.ok w0) (by kernel_rfl) @h
attribute [irreducible] n18 b19 n41 b41 n55 b55 b0
end stream_Recount
namespace lines_Split
def lvs : List (List Nat) := [[0], [0], [0], [0], [0, 3], [0, 3], [0, 3], [0, 3], [0, 3], [0, 3], [0, 3, 6], [0, 3], [3], [0, 3], [0, 3], [0, 3], [0, 3, 4], [0, 3, 4], [0, 3, 4], [0, 3, 4, 11], [0, 3], [0, 3, 4], [0, 3, 4], [0, 3, 4], [0, 3, 4], [3], [3], [2]]
def lv : Nat → List Nat := lvOf lvs
noncomputable def code : Code := bodyOf Tryz.f21
noncomputable def fe : FE := ⟨Tryz.f21, code, lv⟩
def cuts : List Nat := [7, 22, 25]
abbrev X (w0 : Base) (n : Nat) : XT := xr (cx w0) 24 lv n
theorem ok (w0 : Base) : FOK (cx w0) lines_Split.id fe := ⟨Tryz.func21, by kernel_rfl, by kernel_rfl⟩
section
variable (Z : XT) (w0 : Base) (n : Nat) (R : RT) (σ : Store) (s : List UInt8) (out : AV) (at_ : Int)
def q5 : QT := thenQ (fun env σ => Z (cAt code 25) 25 (prune (lv 25) env) σ (finQ (cx w0) Tryz.f21 n R)) (finQ (cx w0) Tryz.f21 n R)
def q6 : QT := blockQ 0 (q5 Z w0 n R)
def q7 : QT := thenQ (fun env σ => Z (cAt code 6) 6 (prune (lv 6) env) σ (q6 Z w0 n R)) (q6 Z w0 n R)
def q14 : QT := blockQ 1 (q7 Z w0 n R)
def n6 : Prop :=
  Z (cAt code 6) 6 [(0, (.pv (.str s))), (3, out)] σ (q6 Z w0 n R)
def b7 : Prop :=
  pcodeX (cx w0) 24 lv n cuts Z (cAt code 7) 7 [(0, (.pv (.str s))), (3, out)] σ (q7 Z w0 n R)
def n22 : Prop :=
  Z (cAt code 22) 22 [(0, (.pv (.str s))), (3, out), (4, (.pv (.int .i64 at_)))] σ (q14 Z w0 n R)
def b22 : Prop :=
  pcodeX (cx w0) 24 lv n cuts Z (cAt code 22) 22 [(0, (.pv (.str s))), (3, out), (4, (.pv (.int .i64 at_)))] σ (q14 Z w0 n R)
def n25 : Prop :=
  Z (cAt code 25) 25 [(3, out)] σ (finQ (cx w0) Tryz.f21 n R)
def b25 : Prop :=
  pcodeX (cx w0) 24 lv n cuts Z (cAt code 25) 25 [(3, out)] σ (finQ (cx w0) Tryz.f21 n R)
def b0 : Prop :=
  pcodeX (cx w0) 24 lv n cuts Z code 0 (argsE 0 [(.pv (.str s))]) σ (finQ (cx w0) Tryz.f21 n R)
end
variable {Z : XT} {w0 : Base} {n : Nat} {R : RT} {σ τ : Store} {s s' : List UInt8} {out out' : AV} {at_ : Int}
theorem n6_in (h : b7 (X w0 n) w0 n R σ s out) : n6 (X w0 n) w0 n R σ s out := xr_round (cxOK w0) (S := cuts) (by kernel_rfl : cAt code 6 = .loop (cAt code 7)) @h
theorem n6_weak (e : EWeak (cx w0) n [(0, (.pv (.str s))), (3, out)] σ [(0, (.pv (.str s'))), (3, out')] τ) (h : n6 (X w0 n) w0 n R τ s' out') : n6 (X w0 n) w0 n R σ s out := xr_weak (L := lv) (k := 6) (by kernel_rfl : cAt code 6 = .loop (cAt code 7)) @e @h
theorem b7_eq : b7 Z w0 n R σ s out = (
  condB (!((s : List UInt8) == [])) (SCalls (cx w0) strings_IndexByte.id [(.pv (.str s)), (.pv (.int .u8 10))] σ fun r σ' => isI .i64 r fun t8 => condB (((IntKind.wrap .i64 (t8 + 1)) : Int) == 0) (n22 Z w0 n R σ' s out (List.length (s : List UInt8) : Int)) (n22 Z w0 n R σ' s out (IntKind.wrap .i64 (t8 + 1)))) (n25 Z w0 n R σ out)) := by kernel_rfl
theorem b22_eq : b22 Z w0 n R σ s out at_ = (
  opt (aSlice σ tabS ti9.td (.pv (.str s)) none (some (.pv (.int .i64 at_)))) fun t17 => isS t17 fun t17_1 => opt2 (aBuildSlice σ ti9 false 1 [(0, (.pv (.str t17_1)))]) fun t18 σ' => opt2 (aAppend σ' ti9 out t18) fun t19 σ'_1 => opt (aSlice σ'_1 tabS ti9.td (.pv (.str s)) (some (.pv (.int .i64 at_))) none) fun t22 => isS t22 fun t22_1 => n6 Z w0 n R σ'_1 t22_1 t19) := by kernel_rfl
theorem n22_in (h : b22 (X w0 n) w0 n R σ s out at_) : n22 (X w0 n) w0 n R σ s out at_ := xr_in (S := cuts) (by kernel_rfl) @h
theorem b25_eq : b25 Z w0 n R σ out = (
  FinK (cx w0) n out σ R) := by kernel_rfl
theorem n25_in (h : b25 (X w0 n) w0 n R σ out) : n25 (X w0 n) w0 n R σ out := xr_in (S := cuts) (by kernel_rfl) @h
theorem b0_eq : b0 Z w0 n R σ s = (
  n6 Z w0 n R σ s .nilsl) := by kernel_rfl
theorem calls (h : b0 (X w0 (List.length σ)) w0 (List.length σ) R σ s) : SCalls (cx w0) lines_Split.id [(.pv (.str s))] σ R :=
  xr_enter (cxOK w0) (x := fe) (S := cuts) (lines_Split.ok w0) (by kernel_rfl) @h
attribute [irreducible] n6 b7 n22 b22 n25 b25 b0
end lines_Split
namespace lines_Join
def lvs : List (List Nat) := [[0], [0], [0], [0], [2]]
def lv : Nat → List Nat := lvOf lvs
noncomputable def code : Code := bodyOf Tryz.f46
noncomputable def fe : FE := ⟨Tryz.f46, code, lv⟩
def cuts : List Nat := []
abbrev X (w0 : Base) (n : Nat) : XT := xr (cx w0) 5 lv n
theorem ok (w0 : Base) : FOK (cx w0) lines_Join.id fe := ⟨Tryz.func46, by kernel_rfl, by kernel_rfl⟩
section
variable (Z : XT) (w0 : Base) (n : Nat) (R : RT) (σ : Store) (l_ : AV)
def b0 : Prop :=
  pcodeX (cx w0) 5 lv n cuts Z code 0 (argsE 0 [l_]) σ (finQ (cx w0) Tryz.f46 n R)
end
variable {Z : XT} {w0 : Base} {n : Nat} {R : RT} {σ τ : Store} {l_ : AV}
theorem b0_eq : b0 Z w0 n R σ l_ = (
  SCalls (cx w0) strings_Join.id [l_, (.pv (.str []))] σ fun r σ' => isS r fun t4 => FinK (cx w0) n (.pv (.str t4)) σ' R) := by kernel_rfl
theorem calls (h : b0 (X w0 (List.length σ)) w0 (List.length σ) R σ l_) : SCalls (cx w0) lines_Join.id [l_] σ R :=
  xr_enter (cxOK w0) (x := fe) (S := cuts) (lines_Join.ok w0) (by kernel_rfl) @h
attribute [irreducible] b0
end lines_Join
end Go.Sv
