/- What the code of Go functions comes to over abstract stores, piece by piece; each equation by the kernel. Printed by a program of this session. -/
import Derived.Test.YtebgkjjbbnbnlaaGreatDoorSvT
import Derived.KernelRfl
set_option linter.unusedVariables false
set_option maxRecDepth 100000
namespace Go.Sv
open Go Go.Proofs
namespace selvageref12_span
def lvs : List (List Nat) := [[0, 1], [0, 1], [0, 1], [0, 1], [0, 1], [0, 1, 6], [0], [0], [4], [0, 1], [0, 1], [0, 1], [4]]
def lv : Nat → List Nat := lvOf lvs
noncomputable def code : Code := bodyOf Tryz.f33
noncomputable def fe : FE := ⟨Tryz.f33, code, lv⟩
def cuts : List Nat := []
abbrev X (w0 : Base) (n : Nat) : XT := xr (cx w0) 18 lv n
def b0 (X : XT) (w0 : Base) (n : Nat) (R : RT) (σ : Store) (a : Int) (n_ : Int) : Prop :=
  pcodeX (cx w0) 18 lv n cuts X code 0 (argsE 0 [(.pv (.int .i64 a)), (.pv (.int .i64 n_))]) σ (finQ (cx w0) Tryz.f33 n R)
theorem b0_eq (X : XT) (w0 : Base) (n : Nat) (R : RT) (σ : Store) (a : Int) (n_ : Int) : b0 X w0 n R σ a n_ = (
  condB (decide ((n_ : Int) < 2)) (SCalls (cx w0) selvageref11_Digits.id [(.pv (.int .i64 a))] σ fun r σ' => isS r fun t8 => FinK (cx w0) n (.pv (.str t8)) σ' R) (SCalls (cx w0) selvageref11_Digits.id [(.pv (.int .i64 a))] σ fun r σ' => isS r fun t10 => (List.length (t10 : List UInt8) + List.length ([44] : List UInt8) ≤ 9223372036854775807 ∧ (SCalls (cx w0) selvageref11_Digits.id [(.pv (.int .i64 (IntKind.wrap .i64 ((IntKind.wrap .i64 (a + n_)) - 1))))] σ' fun r_1 σ'_1 => isS r_1 fun t16 => (List.length ((t10 ++ [44]) : List UInt8) + List.length (t16 : List UInt8) ≤ 9223372036854775807 ∧ (FinK (cx w0) n (.pv (.str ((t10 ++ [44]) ++ t16))) σ'_1 R)))))) := by kernel_rfl
theorem ok (w0 : Base) : FOK (cx w0) selvageref12_span.id fe := ⟨Tryz.func33, by kernel_rfl, by kernel_rfl⟩
theorem calls {w0 : Base} {R : RT} {σ : Store} {a : Int} {n_ : Int} (h : b0 (X w0 (List.length σ)) w0 (List.length σ) R σ a n_) : SCalls (cx w0) selvageref12_span.id [(.pv (.int .i64 a)), (.pv (.int .i64 n_))] σ R :=
  xr_enter (cxOK w0) (x := fe) (S := cuts) (selvageref12_span.ok w0) (by kernel_rfl) h
end selvageref12_span
namespace selvageref12_both
def lvs : List (List Nat) := [[0, 1], [0, 1], [0, 1], [0, 1], [0, 5], [0, 5], [0, 5], [0, 5], [0, 5], [0, 5], [0, 5, 19], [0, 5], [0, 5], [0, 5], [0, 5], [0, 5], [0, 5], [0, 5, 6], [0, 5, 6], [0, 5, 6], [0, 6, 7], [0, 6, 7], [0, 6, 7], [0, 6, 7], [0, 6, 7], [0, 6, 7, 35], [0, 6, 7], [6], [0, 6, 7], [0, 6, 7], [0, 6, 7], [0, 6, 7], [6], [6], [4]]
def lv : Nat → List Nat := lvOf lvs
noncomputable def code : Code := bodyOf Tryz.f71
noncomputable def fe : FE := ⟨Tryz.f71, code, lv⟩
def cuts : List Nat := [7, 10, 15, 22, 25, 32, 34]
abbrev X (w0 : Base) (n : Nat) : XT := xr (cx w0) 50 lv n
def q5 (X : XT) (w0 : Base) (n : Nat) (R : RT) : QT := thenQ (fun env σ => X (cAt code 15) 15 (prune (lv 15) env) σ (finQ (cx w0) Tryz.f71 n R)) (finQ (cx w0) Tryz.f71 n R)
def q6 (X : XT) (w0 : Base) (n : Nat) (R : RT) : QT := blockQ 0 (q5 X w0 n R)
def q7 (X : XT) (w0 : Base) (n : Nat) (R : RT) : QT := thenQ (fun env σ => X (cAt code 6) 6 (prune (lv 6) env) σ (q6 X w0 n R)) (q6 X w0 n R)
def q8 (X : XT) (w0 : Base) (n : Nat) (R : RT) : QT := thenQ (fun env σ => pcodeX (cx w0) 50 lv n cuts X (cAt code 13) 13 (prune (lv 13) env) σ (q7 X w0 n R)) (q7 X w0 n R)
def q18 (X : XT) (w0 : Base) (n : Nat) (R : RT) : QT := thenQ (fun env σ => X (cAt code 32) 32 (prune (lv 32) env) σ (finQ (cx w0) Tryz.f71 n R)) (finQ (cx w0) Tryz.f71 n R)
def q21 (X : XT) (w0 : Base) (n : Nat) (R : RT) : QT := blockQ 2 (q18 X w0 n R)
def q22 (X : XT) (w0 : Base) (n : Nat) (R : RT) : QT := thenQ (fun env σ => X (cAt code 21) 21 (prune (lv 21) env) σ (q21 X w0 n R)) (q21 X w0 n R)
def q23 (X : XT) (w0 : Base) (n : Nat) (R : RT) : QT := thenQ (fun env σ => pcodeX (cx w0) 50 lv n cuts X (cAt code 28) 28 (prune (lv 28) env) σ (q22 X w0 n R)) (q22 X w0 n R)
def n6 (X : XT) (w0 : Base) (n : Nat) (R : RT) (σ : Store) (l_ : AV) (from_ : Int) : Prop :=
  X (cAt code 6) 6 [(0, l_), (5, (.pv (.int .i64 from_)))] σ (q6 X w0 n R)
def b7 (X : XT) (w0 : Base) (n : Nat) (R : RT) (σ : Store) (l_ : AV) (from_ : Int) : Prop :=
  pcodeX (cx w0) 50 lv n cuts X (cAt code 7) 7 [(0, l_), (5, (.pv (.int .i64 from_)))] σ (q7 X w0 n R)
def n10 (X : XT) (w0 : Base) (n : Nat) (R : RT) (σ : Store) (l_ : AV) (from_ : Int) (t19 : Bool) : Prop :=
  X (cAt code 10) 10 [(0, l_), (5, (.pv (.int .i64 from_))), (19, (.pv (.bool t19)))] σ (q8 X w0 n R)
def b10 (X : XT) (w0 : Base) (n : Nat) (R : RT) (σ : Store) (l_ : AV) (from_ : Int) (t19 : Bool) : Prop :=
  pcodeX (cx w0) 50 lv n cuts X (cAt code 10) 10 [(0, l_), (5, (.pv (.int .i64 from_))), (19, (.pv (.bool t19)))] σ (q8 X w0 n R)
def n15 (X : XT) (w0 : Base) (n : Nat) (R : RT) (σ : Store) (l_ : AV) (from_ : Int) : Prop :=
  X (cAt code 15) 15 [(0, l_), (5, (.pv (.int .i64 from_)))] σ (finQ (cx w0) Tryz.f71 n R)
def b15 (X : XT) (w0 : Base) (n : Nat) (R : RT) (σ : Store) (l_ : AV) (from_ : Int) : Prop :=
  pcodeX (cx w0) 50 lv n cuts X (cAt code 15) 15 [(0, l_), (5, (.pv (.int .i64 from_)))] σ (finQ (cx w0) Tryz.f71 n R)
def n21 (X : XT) (w0 : Base) (n : Nat) (R : RT) (σ : Store) (l_ : AV) (is : AV) (i : Int) : Prop :=
  X (cAt code 21) 21 [(0, l_), (6, is), (7, (.pv (.int .i64 i)))] σ (q21 X w0 n R)
def b22 (X : XT) (w0 : Base) (n : Nat) (R : RT) (σ : Store) (l_ : AV) (is : AV) (i : Int) : Prop :=
  pcodeX (cx w0) 50 lv n cuts X (cAt code 22) 22 [(0, l_), (6, is), (7, (.pv (.int .i64 i)))] σ (q22 X w0 n R)
def n25 (X : XT) (w0 : Base) (n : Nat) (R : RT) (σ : Store) (l_ : AV) (is : AV) (i : Int) (t35 : Bool) : Prop :=
  X (cAt code 25) 25 [(0, l_), (6, is), (7, (.pv (.int .i64 i))), (35, (.pv (.bool t35)))] σ (q23 X w0 n R)
def b25 (X : XT) (w0 : Base) (n : Nat) (R : RT) (σ : Store) (l_ : AV) (is : AV) (i : Int) (t35 : Bool) : Prop :=
  pcodeX (cx w0) 50 lv n cuts X (cAt code 25) 25 [(0, l_), (6, is), (7, (.pv (.int .i64 i))), (35, (.pv (.bool t35)))] σ (q23 X w0 n R)
def n32 (X : XT) (w0 : Base) (n : Nat) (R : RT) (σ : Store) (is : AV) : Prop :=
  X (cAt code 32) 32 [(6, is)] σ (finQ (cx w0) Tryz.f71 n R)
def b32 (X : XT) (w0 : Base) (n : Nat) (R : RT) (σ : Store) (is : AV) : Prop :=
  pcodeX (cx w0) 50 lv n cuts X (cAt code 32) 32 [(6, is)] σ (finQ (cx w0) Tryz.f71 n R)
def n34 (X : XT) (w0 : Base) (n : Nat) (R : RT) (σ : Store) (t4 : Bool) : Prop :=
  X (cAt code 34) 34 [(4, (.pv (.bool t4)))] σ (finQ (cx w0) Tryz.f71 n R)
def b34 (X : XT) (w0 : Base) (n : Nat) (R : RT) (σ : Store) (t4 : Bool) : Prop :=
  pcodeX (cx w0) 50 lv n cuts X (cAt code 34) 34 [(4, (.pv (.bool t4)))] σ (finQ (cx w0) Tryz.f71 n R)
def b0 (X : XT) (w0 : Base) (n : Nat) (R : RT) (σ : Store) (l_ : AV) (at_ : Int) : Prop :=
  pcodeX (cx w0) 50 lv n cuts X code 0 (argsE 0 [l_, (.pv (.int .i64 at_))]) σ (finQ (cx w0) Tryz.f71 n R)
theorem n6_in {w0 : Base} {n : Nat} {R : RT} {σ : Store} {l_ : AV} {from_ : Int} (h : b7 (X w0 n) w0 n R σ l_ from_) : n6 (X w0 n) w0 n R σ l_ from_ := xr_round (cxOK w0) (S := cuts) (by kernel_rfl : cAt code 6 = .loop (cAt code 7)) h
theorem b7_eq (X : XT) (w0 : Base) (n : Nat) (R : RT) (σ : Store) (l_ : AV) (from_ : Int) : b7 X w0 n R σ l_ from_ = (
  condB (decide ((from_ : Int) > 0)) (opt (aIndexAddr σ tabS ti37.td l_ (IntKind.wrap .i64 (from_ - 1))) fun t15 => opt (aFieldAddr tabS ti51.td t15 0) fun t16 => opt (aLoad σ ti3 t16) fun t17 => isI .i64 t17 fun t17_1 => n10 X w0 n R σ l_ from_ ((t17_1 : Int) != 1)) (n10 X w0 n R σ l_ from_ false)) := by kernel_rfl
theorem b10_eq (X : XT) (w0 : Base) (n : Nat) (R : RT) (σ : Store) (l_ : AV) (from_ : Int) (t19 : Bool) : b10 X w0 n R σ l_ from_ t19 = (
  condB t19 (n6 X w0 n R σ l_ (IntKind.wrap .i64 (from_ - 1))) (n15 X w0 n R σ l_ from_)) := by kernel_rfl
theorem n10_in {w0 : Base} {n : Nat} {R : RT} {σ : Store} {l_ : AV} {from_ : Int} {t19 : Bool} (h : b10 (X w0 n) w0 n R σ l_ from_ t19) : n10 (X w0 n) w0 n R σ l_ from_ t19 := xr_in (S := cuts) (by kernel_rfl) h
theorem b15_eq (X : XT) (w0 : Base) (n : Nat) (R : RT) (σ : Store) (l_ : AV) (from_ : Int) : b15 X w0 n R σ l_ from_ = (
  opt (aBuild tabS ti173 []) fun t22 => opt (aStore (σ ++ [.cells 173 (AV.ofValue ti173.zero).cells]) ti173 (.ptr (List.length σ) 0) t22) fun σ' => n21 X w0 n R σ' l_ (.ptr (List.length σ) 0) from_) := by kernel_rfl
theorem n15_in {w0 : Base} {n : Nat} {R : RT} {σ : Store} {l_ : AV} {from_ : Int} (h : b15 (X w0 n) w0 n R σ l_ from_) : n15 (X w0 n) w0 n R σ l_ from_ := xr_in (S := cuts) (by kernel_rfl) h
theorem n21_in {w0 : Base} {n : Nat} {R : RT} {σ : Store} {l_ : AV} {is : AV} {i : Int} (h : b22 (X w0 n) w0 n R σ l_ is i) : n21 (X w0 n) w0 n R σ l_ is i := xr_round (cxOK w0) (S := cuts) (by kernel_rfl : cAt code 21 = .loop (cAt code 22)) h
theorem b22_eq (X : XT) (w0 : Base) (n : Nat) (R : RT) (σ : Store) (l_ : AV) (is : AV) (i : Int) : b22 X w0 n R σ l_ is i = (
  opt (aLen ti37.td l_) fun t26 => isI .i64 t26 fun t26_1 => condB (decide ((i : Int) < t26_1)) (opt (aIndexAddr σ tabS ti37.td l_ i) fun t31 => opt (aFieldAddr tabS ti51.td t31 0) fun t32 => opt (aLoad σ ti3 t32) fun t33 => isI .i64 t33 fun t33_1 => n25 X w0 n R σ l_ is i ((t33_1 : Int) != 1)) (n25 X w0 n R σ l_ is i false)) := by kernel_rfl
theorem b25_eq (X : XT) (w0 : Base) (n : Nat) (R : RT) (σ : Store) (l_ : AV) (is : AV) (i : Int) (t35 : Bool) : b25 X w0 n R σ l_ is i t35 = (
  condB t35 (opt (aIndexAddr σ tabS ti37.td l_ i) fun t40 => opt (aFieldAddr tabS ti51.td t40 0) fun t41 => opt (aLoad σ ti3 t41) fun t42 => isI .i64 t42 fun t42_1 => opt (aIndexAddr σ tabS ti173.td is t42_1) fun t43 => opt (aStore σ ti4 t43 (.pv (.bool true))) fun σ' => n21 X w0 n R σ' l_ is (IntKind.wrap .i64 (i + 1))) (n32 X w0 n R σ is)) := by kernel_rfl
theorem n25_in {w0 : Base} {n : Nat} {R : RT} {σ : Store} {l_ : AV} {is : AV} {i : Int} {t35 : Bool} (h : b25 (X w0 n) w0 n R σ l_ is i t35) : n25 (X w0 n) w0 n R σ l_ is i t35 := xr_in (S := cuts) (by kernel_rfl) h
theorem b32_eq (X : XT) (w0 : Base) (n : Nat) (R : RT) (σ : Store) (is : AV) : b32 X w0 n R σ is = (
  opt (aIndexAddr σ tabS ti173.td is 2) fun t44 => opt (aLoad σ ti4 t44) fun t45 => isB t45 fun t45_1 => condB t45_1 (opt (aIndexAddr σ tabS ti173.td is 3) fun t47 => opt (aLoad σ ti4 t47) fun t48 => isB t48 fun t48_1 => n34 X w0 n R σ t48_1) (n34 X w0 n R σ false)) := by kernel_rfl
theorem n32_in {w0 : Base} {n : Nat} {R : RT} {σ : Store} {is : AV} (h : b32 (X w0 n) w0 n R σ is) : n32 (X w0 n) w0 n R σ is := xr_in (S := cuts) (by kernel_rfl) h
theorem b34_eq (X : XT) (w0 : Base) (n : Nat) (R : RT) (σ : Store) (t4 : Bool) : b34 X w0 n R σ t4 = (
  FinK (cx w0) n (.pv (.bool t4)) σ R) := by kernel_rfl
theorem n34_in {w0 : Base} {n : Nat} {R : RT} {σ : Store} {t4 : Bool} (h : b34 (X w0 n) w0 n R σ t4) : n34 (X w0 n) w0 n R σ t4 := xr_in (S := cuts) (by kernel_rfl) h
theorem b0_eq (X : XT) (w0 : Base) (n : Nat) (R : RT) (σ : Store) (l_ : AV) (at_ : Int) : b0 X w0 n R σ l_ at_ = (
  n6 X w0 n R σ l_ at_) := by kernel_rfl
theorem ok (w0 : Base) : FOK (cx w0) selvageref12_both.id fe := ⟨Tryz.func71, by kernel_rfl, by kernel_rfl⟩
theorem calls {w0 : Base} {R : RT} {σ : Store} {l_ : AV} {at_ : Int} (h : b0 (X w0 (List.length σ)) w0 (List.length σ) R σ l_ at_) : SCalls (cx w0) selvageref12_both.id [l_, (.pv (.int .i64 at_))] σ R :=
  xr_enter (cxOK w0) (x := fe) (S := cuts) (selvageref12_both.ok w0) (by kernel_rfl) h
end selvageref12_both
namespace selvageref12_part
def lvs : List (List Nat) := [[0, 1, 2], [0, 1, 2], [0, 1, 2], [0, 1, 2], [0, 1, 2, 7], [0, 1, 2, 7], [0, 1, 2, 7, 8], [0, 1, 2, 7, 8], [0, 1, 2, 7, 8], [0, 1, 2, 7, 8, 9], [0, 1, 2, 7, 8, 9], [0, 1, 2, 7, 8, 9], [0, 1, 2, 7, 8, 9], [0, 1, 2, 7, 8, 9], [0, 1, 2, 7, 8, 9, 13], [0, 1, 2, 7, 8, 9], [7, 8], [0, 1, 2, 7, 8, 9], [0, 1, 2, 7, 8, 9], [0, 1, 2, 7, 8, 9], [0, 1, 2, 7, 8, 9], [0, 1, 2, 7, 8, 9], [0, 1, 2, 7, 8, 9], [0, 1, 2, 7, 8, 9, 19], [0, 1, 2, 7, 8, 9], [0, 1, 2, 7, 8, 9], [0, 1, 2, 7, 8, 9], [0, 1, 2, 7, 8, 9, 28], [0, 1, 2, 7, 8, 9], [0, 1, 2, 7, 9], [0, 1, 2, 7, 9], [0, 1, 2, 7, 9, 36], [0, 1, 2, 7, 9], [0, 1, 2, 7, 9], [0, 1, 2, 7, 8, 9], [0, 1, 2, 7, 9], [0, 1, 2, 7, 9], [0, 1, 2, 7, 8, 9], [0, 1, 2, 7, 8, 9], [0, 1, 2, 7, 8, 9], [7, 8], [7, 8], [7, 8], [7, 51], [], [], [6], [7], [7], [7], [6]]
def lv : Nat → List Nat := lvOf lvs
noncomputable def code : Code := bodyOf Tryz.f34
noncomputable def fe : FE := ⟨Tryz.f34, code, lv⟩
def cuts : List Nat := [11, 38, 39, 40]
abbrev X (w0 : Base) (n : Nat) : XT := xr (cx w0) 54 lv n
def q7 (X : XT) (w0 : Base) (n : Nat) (R : RT) : QT := thenQ (fun env σ => X (cAt code 40) 40 (prune (lv 40) env) σ (finQ (cx w0) Tryz.f34 n R)) (finQ (cx w0) Tryz.f34 n R)
def q10 (X : XT) (w0 : Base) (n : Nat) (R : RT) : QT := blockQ 0 (q7 X w0 n R)
def q11 (X : XT) (w0 : Base) (n : Nat) (R : RT) : QT := thenQ (fun env σ => X (cAt code 10) 10 (prune (lv 10) env) σ (q10 X w0 n R)) (q10 X w0 n R)
def q18 (X : XT) (w0 : Base) (n : Nat) (R : RT) : QT := thenQ (fun env σ => X (cAt code 39) 39 (prune (lv 39) env) σ (q11 X w0 n R)) (q11 X w0 n R)
def q19 (X : XT) (w0 : Base) (n : Nat) (R : RT) : QT := blockQ 1 (q18 X w0 n R)
def n10 (X : XT) (w0 : Base) (n : Nat) (R : RT) (σ : Store) (l_ : AV) (kind : Int) (mark_ : List UInt8) (out : AV) (any : Bool) (i : Int) : Prop :=
  X (cAt code 10) 10 [(0, l_), (1, (.pv (.int .i64 kind))), (2, (.pv (.str mark_))), (7, out), (8, (.pv (.bool any))), (9, (.pv (.int .i64 i)))] σ (q10 X w0 n R)
def b11 (X : XT) (w0 : Base) (n : Nat) (R : RT) (σ : Store) (l_ : AV) (kind : Int) (mark_ : List UInt8) (out : AV) (any : Bool) (i : Int) : Prop :=
  pcodeX (cx w0) 54 lv n cuts X (cAt code 11) 11 [(0, l_), (1, (.pv (.int .i64 kind))), (2, (.pv (.str mark_))), (7, out), (8, (.pv (.bool any))), (9, (.pv (.int .i64 i)))] σ (q11 X w0 n R)
def n38 (X : XT) (w0 : Base) (n : Nat) (R : RT) (σ : Store) (l_ : AV) (kind : Int) (mark_ : List UInt8) (out : AV) (any : Bool) (i : Int) : Prop :=
  X (cAt code 38) 38 [(0, l_), (1, (.pv (.int .i64 kind))), (2, (.pv (.str mark_))), (7, out), (8, (.pv (.bool any))), (9, (.pv (.int .i64 i)))] σ (q19 X w0 n R)
def b38 (X : XT) (w0 : Base) (n : Nat) (R : RT) (σ : Store) (l_ : AV) (kind : Int) (mark_ : List UInt8) (out : AV) (any : Bool) (i : Int) : Prop :=
  pcodeX (cx w0) 54 lv n cuts X (cAt code 38) 38 [(0, l_), (1, (.pv (.int .i64 kind))), (2, (.pv (.str mark_))), (7, out), (8, (.pv (.bool any))), (9, (.pv (.int .i64 i)))] σ (q19 X w0 n R)
def n39 (X : XT) (w0 : Base) (n : Nat) (R : RT) (σ : Store) (l_ : AV) (kind : Int) (mark_ : List UInt8) (out : AV) (any : Bool) (i : Int) : Prop :=
  X (cAt code 39) 39 [(0, l_), (1, (.pv (.int .i64 kind))), (2, (.pv (.str mark_))), (7, out), (8, (.pv (.bool any))), (9, (.pv (.int .i64 i)))] σ (q11 X w0 n R)
def b39 (X : XT) (w0 : Base) (n : Nat) (R : RT) (σ : Store) (l_ : AV) (kind : Int) (mark_ : List UInt8) (out : AV) (any : Bool) (i : Int) : Prop :=
  pcodeX (cx w0) 54 lv n cuts X (cAt code 39) 39 [(0, l_), (1, (.pv (.int .i64 kind))), (2, (.pv (.str mark_))), (7, out), (8, (.pv (.bool any))), (9, (.pv (.int .i64 i)))] σ (q11 X w0 n R)
def n40 (X : XT) (w0 : Base) (n : Nat) (R : RT) (σ : Store) (out : AV) (any : Bool) : Prop :=
  X (cAt code 40) 40 [(7, out), (8, (.pv (.bool any)))] σ (finQ (cx w0) Tryz.f34 n R)
def b40 (X : XT) (w0 : Base) (n : Nat) (R : RT) (σ : Store) (out : AV) (any : Bool) : Prop :=
  pcodeX (cx w0) 54 lv n cuts X (cAt code 40) 40 [(7, out), (8, (.pv (.bool any)))] σ (finQ (cx w0) Tryz.f34 n R)
def b0 (X : XT) (w0 : Base) (n : Nat) (R : RT) (σ : Store) (l_ : AV) (kind : Int) (mark_ : List UInt8) : Prop :=
  pcodeX (cx w0) 54 lv n cuts X code 0 (argsE 0 [l_, (.pv (.int .i64 kind)), (.pv (.str mark_))]) σ (finQ (cx w0) Tryz.f34 n R)
theorem n10_in {w0 : Base} {n : Nat} {R : RT} {σ : Store} {l_ : AV} {kind : Int} {mark_ : List UInt8} {out : AV} {any : Bool} {i : Int} (h : b11 (X w0 n) w0 n R σ l_ kind mark_ out any i) : n10 (X w0 n) w0 n R σ l_ kind mark_ out any i := xr_round (cxOK w0) (S := cuts) (by kernel_rfl : cAt code 10 = .loop (cAt code 11)) h
theorem n10_weak {w0 : Base} {n : Nat} {R : RT} {σ τ : Store} {l_ : AV} {kind : Int} {mark_ : List UInt8} {out : AV} {any : Bool} {i : Int} {l_' : AV} {kind' : Int} {mark_' : List UInt8} {out' : AV} {any' : Bool} {i' : Int} (e : EWeak (cx w0) n [(0, l_), (1, (.pv (.int .i64 kind))), (2, (.pv (.str mark_))), (7, out), (8, (.pv (.bool any))), (9, (.pv (.int .i64 i)))] σ [(0, l_'), (1, (.pv (.int .i64 kind'))), (2, (.pv (.str mark_'))), (7, out'), (8, (.pv (.bool any'))), (9, (.pv (.int .i64 i')))] τ) (h : n10 (X w0 n) w0 n R τ l_' kind' mark_' out' any' i') : n10 (X w0 n) w0 n R σ l_ kind mark_ out any i := xr_weak (L := lv) (k := 10) (by kernel_rfl : cAt code 10 = .loop (cAt code 11)) e h
theorem b11_eq (X : XT) (w0 : Base) (n : Nat) (R : RT) (σ : Store) (l_ : AV) (kind : Int) (mark_ : List UInt8) (out : AV) (any : Bool) (i : Int) : b11 X w0 n R σ l_ kind mark_ out any i = (
  opt (aLen ti37.td l_) fun t12 => isI .i64 t12 fun t12_1 => condB (decide ((i : Int) < t12_1)) (opt (aIndexAddr σ tabS ti37.td l_ i) fun t22 => opt (aFieldAddr tabS ti51.td t22 0) fun t23 => opt (aLoad σ ti3 t23) fun t24 => isI .i64 t24 fun t24_1 => condB ((t24_1 : Int) == 1) (opt2 (aAppend σ ti5 out (.pv (.str [32, 32]))) fun t27 σ' => n38 X w0 n R σ' l_ kind mark_ t27 any i) (opt (aIndexAddr σ tabS ti37.td l_ i) fun t31 => opt (aFieldAddr tabS ti51.td t31 0) fun t32 => opt (aLoad σ ti3 t32) fun t33 => isI .i64 t33 fun t33_1 => condB ((t33_1 : Int) != kind) (n39 X w0 n R σ l_ kind mark_ out any i) (SCalls (cx w0) selvageref12_both.id [l_, (.pv (.int .i64 i))] σ fun r σ' => isB r fun t39 => condB t39 (opt2 (aAppend σ' ti5 out (.pv (.str [33, 32]))) fun t41 σ'_1 => n38 X w0 n R σ'_1 l_ kind mark_ t41 true i) (opt2 (aAppend σ' ti5 out (.pv (.str mark_))) fun t18 σ'_1 => n38 X w0 n R σ'_1 l_ kind mark_ t18 true i)))) (n40 X w0 n R σ out any)) := by kernel_rfl
theorem b38_eq (X : XT) (w0 : Base) (n : Nat) (R : RT) (σ : Store) (l_ : AV) (kind : Int) (mark_ : List UInt8) (out : AV) (any : Bool) (i : Int) : b38 X w0 n R σ l_ kind mark_ out any i = (
  opt (aIndexAddr σ tabS ti37.td l_ i) fun t45 => opt (aFieldAddr tabS ti51.td t45 1) fun t46 => opt (aLoad σ ti9 t46) fun t47 => isS t47 fun t47_1 => SCalls (cx w0) selvageref11_Tail.id [(.pv (.str t47_1))] σ fun r σ' => isS r fun t48 => opt2 (aAppend σ' ti5 out (.pv (.str t48))) fun t49 σ'_1 => n39 X w0 n R σ'_1 l_ kind mark_ t49 any i) := by kernel_rfl
theorem n38_in {w0 : Base} {n : Nat} {R : RT} {σ : Store} {l_ : AV} {kind : Int} {mark_ : List UInt8} {out : AV} {any : Bool} {i : Int} (h : b38 (X w0 n) w0 n R σ l_ kind mark_ out any i) : n38 (X w0 n) w0 n R σ l_ kind mark_ out any i := xr_in (S := cuts) (by kernel_rfl) h
theorem b39_eq (X : XT) (w0 : Base) (n : Nat) (R : RT) (σ : Store) (l_ : AV) (kind : Int) (mark_ : List UInt8) (out : AV) (any : Bool) (i : Int) : b39 X w0 n R σ l_ kind mark_ out any i = (
  n10 X w0 n R σ l_ kind mark_ out any (IntKind.wrap .i64 (i + 1))) := by kernel_rfl
theorem n39_in {w0 : Base} {n : Nat} {R : RT} {σ : Store} {l_ : AV} {kind : Int} {mark_ : List UInt8} {out : AV} {any : Bool} {i : Int} (h : b39 (X w0 n) w0 n R σ l_ kind mark_ out any i) : n39 (X w0 n) w0 n R σ l_ kind mark_ out any i := xr_in (S := cuts) (by kernel_rfl) h
theorem b40_eq (X : XT) (w0 : Base) (n : Nat) (R : RT) (σ : Store) (out : AV) (any : Bool) : b40 X w0 n R σ out any = (
  condB (!any) (FinK (cx w0) n (.pv (.str [])) σ R) (opt2 (aConvert σ tabS ti56.td ti9.td out) fun t53 σ' => isS t53 fun t53_1 => FinK (cx w0) n (.pv (.str t53_1)) σ' R)) := by kernel_rfl
theorem n40_in {w0 : Base} {n : Nat} {R : RT} {σ : Store} {out : AV} {any : Bool} (h : b40 (X w0 n) w0 n R σ out any) : n40 (X w0 n) w0 n R σ out any := xr_in (S := cuts) (by kernel_rfl) h
theorem b0_eq (X : XT) (w0 : Base) (n : Nat) (R : RT) (σ : Store) (l_ : AV) (kind : Int) (mark_ : List UInt8) : b0 X w0 n R σ l_ kind mark_ = (
  n10 X w0 n R σ l_ kind mark_ .nilsl false 0) := by kernel_rfl
theorem ok (w0 : Base) : FOK (cx w0) selvageref12_part.id fe := ⟨Tryz.func34, by kernel_rfl, by kernel_rfl⟩
theorem calls {w0 : Base} {R : RT} {σ : Store} {l_ : AV} {kind : Int} {mark_ : List UInt8} (h : b0 (X w0 (List.length σ)) w0 (List.length σ) R σ l_ kind mark_) : SCalls (cx w0) selvageref12_part.id [l_, (.pv (.int .i64 kind)), (.pv (.str mark_))] σ R :=
  xr_enter (cxOK w0) (x := fe) (S := cuts) (selvageref12_part.ok w0) (by kernel_rfl) h
end selvageref12_part
namespace selvageref12_Hunk
def lvs : List (List Nat) := [[0], [0], [1], [1], [1], [1, 7], [], [], [2, 3], [1], [1], [1], [1, 4], [1, 4], [1, 4], [1, 4, 10], [1, 4], [1, 4], [1, 4], [1, 4], [1, 4], [1, 4], [2, 3]]
def lv : Nat → List Nat := lvOf lvs
noncomputable def code : Code := bodyOf Tryz.f14
noncomputable def fe : FE := ⟨Tryz.f14, code, lv⟩
def cuts : List Nat := [18]
abbrev X (w0 : Base) (n : Nat) : XT := xr (cx w0) 42 lv n
def n18 (X : XT) (w0 : Base) (n : Nat) (R : RT) (σ : Store) (h_ : AV) (s : List UInt8) : Prop :=
  X (cAt code 18) 18 [(1, h_), (4, (.pv (.str s)))] σ (finQ (cx w0) Tryz.f14 n R)
def b18 (X : XT) (w0 : Base) (n : Nat) (R : RT) (σ : Store) (h_ : AV) (s : List UInt8) : Prop :=
  pcodeX (cx w0) 42 lv n cuts X (cAt code 18) 18 [(1, h_), (4, (.pv (.str s)))] σ (finQ (cx w0) Tryz.f14 n R)
def b0 (X : XT) (w0 : Base) (n : Nat) (R : RT) (σ : Store) (h_ : AV) : Prop :=
  pcodeX (cx w0) 42 lv n cuts X code 0 (argsE 0 [h_]) σ (finQ (cx w0) Tryz.f14 n R)
theorem b18_eq (X : XT) (w0 : Base) (n : Nat) (R : RT) (σ : Store) (h_ : AV) (s : List UInt8) : b18 X w0 n R σ h_ s = (
  (List.length (s : List UInt8) + List.length ([10, 42, 42, 42, 32] : List UInt8) ≤ 9223372036854775807 ∧ (opt (aFieldAddr tabS ti39.td h_ 0) fun t18 => opt (aLoad σ ti3 t18) fun t19 => isI .i64 t19 fun t19_1 => opt (aFieldAddr tabS ti39.td h_ 1) fun t20 => opt (aLoad σ ti3 t20) fun t21 => isI .i64 t21 fun t21_1 => opt (aFieldAddr tabS ti39.td h_ 5) fun t25 => opt (aLoad σ ti37 t25) fun t26 => SCalls (cx w0) selvageref12_span.id [(.pv (.int .i64 t19_1)), (.pv (.int .i64 t21_1))] σ fun r σ' => isS r fun t22 => ((opt (aLoad σ' ti37 t25) fun t26_1 => ((t26_1 : AV) = t26)) ∧ ((List.length ((s ++ [10, 42, 42, 42, 32]) : List UInt8) + List.length (t22 : List UInt8) ≤ 9223372036854775807 ∧ ((List.length (((s ++ [10, 42, 42, 42, 32]) ++ t22) : List UInt8) + List.length ([32, 42, 42, 42, 42, 10] : List UInt8) ≤ 9223372036854775807 ∧ (SCalls (cx w0) selvageref12_part.id [t26, (.pv (.int .i64 2)), (.pv (.str [45, 32]))] σ' fun r_1 σ'_1 => isS r_1 fun t27 => (List.length ((((s ++ [10, 42, 42, 42, 32]) ++ t22) ++ [32, 42, 42, 42, 42, 10]) : List UInt8) + List.length (t27 : List UInt8) ≤ 9223372036854775807 ∧ ((List.length (((((s ++ [10, 42, 42, 42, 32]) ++ t22) ++ [32, 42, 42, 42, 42, 10]) ++ t27) : List UInt8) + List.length ([45, 45, 45, 32] : List UInt8) ≤ 9223372036854775807 ∧ (opt (aFieldAddr tabS ti39.td h_ 2) fun t31 => opt (aLoad σ'_1 ti3 t31) fun t32 => isI .i64 t32 fun t32_1 => opt (aFieldAddr tabS ti39.td h_ 3) fun t33 => opt (aLoad σ'_1 ti3 t33) fun t34 => isI .i64 t34 fun t34_1 => opt (aFieldAddr tabS ti39.td h_ 5) fun t38 => opt (aLoad σ'_1 ti37 t38) fun t39 => SCalls (cx w0) selvageref12_span.id [(.pv (.int .i64 t32_1)), (.pv (.int .i64 t34_1))] σ'_1 fun r_2 σ'_2 => isS r_2 fun t35 => ((opt (aLoad σ'_2 ti37 t38) fun t39_1 => ((t39_1 : AV) = t39)) ∧ ((List.length ((((((s ++ [10, 42, 42, 42, 32]) ++ t22) ++ [32, 42, 42, 42, 42, 10]) ++ t27) ++ [45, 45, 45, 32]) : List UInt8) + List.length (t35 : List UInt8) ≤ 9223372036854775807 ∧ ((List.length (((((((s ++ [10, 42, 42, 42, 32]) ++ t22) ++ [32, 42, 42, 42, 42, 10]) ++ t27) ++ [45, 45, 45, 32]) ++ t35) : List UInt8) + List.length ([32, 45, 45, 45, 45, 10] : List UInt8) ≤ 9223372036854775807 ∧ (SCalls (cx w0) selvageref12_part.id [t39, (.pv (.int .i64 3)), (.pv (.str [43, 32]))] σ'_2 fun r_3 σ'_3 => isS r_3 fun t40 => (List.length ((((((((s ++ [10, 42, 42, 42, 32]) ++ t22) ++ [32, 42, 42, 42, 42, 10]) ++ t27) ++ [45, 45, 45, 32]) ++ t35) ++ [32, 45, 45, 45, 45, 10]) : List UInt8) + List.length (t40 : List UInt8) ≤ 9223372036854775807 ∧ (FinK (cx w0) n (.tup [(.pv (.str ((((((((s ++ [10, 42, 42, 42, 32]) ++ t22) ++ [32, 42, 42, 42, 42, 10]) ++ t27) ++ [45, 45, 45, 32]) ++ t35) ++ [32, 45, 45, 45, 45, 10]) ++ t40))), (.pv (.int .i64 0))]) σ'_3 R))))))))))))))))))))) := by kernel_rfl
theorem n18_in {w0 : Base} {n : Nat} {R : RT} {σ : Store} {h_ : AV} {s : List UInt8} (h : b18 (X w0 n) w0 n R σ h_ s) : n18 (X w0 n) w0 n R σ h_ s := xr_in (S := cuts) (by kernel_rfl) h
theorem b0_eq (X : XT) (w0 : Base) (n : Nat) (R : RT) (σ : Store) (h_ : AV) : b0 X w0 n R σ h_ = (
  ((AV.cells h_).all AV.one = true ∧ (opt (aLoad (σ ++ [.cells 39 (AV.cells h_)]) ti39 (.ptr (List.length σ) 0)) fun t5 => SCalls (cx w0) selvageref10_Valid.id [t5] (σ ++ [.cells 39 (AV.cells h_)]) fun r σ' => isI .i64 r fun t6 => condB ((t6 : Int) != 0) (FinK (cx w0) n (.tup [(.pv (.str [])), (.pv (.int .i64 100))]) σ' R) (opt (aFieldAddr tabS ti39.td (.ptr (List.length σ) 0) 4) fun t8 => opt (aLoad σ' ti9 t8) fun t9 => isS t9 fun t9_1 => condB (!((t9_1 : List UInt8) == [])) ((List.length ([42, 42, 42, 42, 42, 42, 42, 42, 42, 42, 42, 42, 42, 42, 42] : List UInt8) + List.length ([32] : List UInt8) ≤ 9223372036854775807 ∧ (opt (aFieldAddr tabS ti39.td (.ptr (List.length σ) 0) 4) fun t13 => opt (aLoad σ' ti9 t13) fun t14 => isS t14 fun t14_1 => (List.length (([42, 42, 42, 42, 42, 42, 42, 42, 42, 42, 42, 42, 42, 42, 42] ++ [32]) : List UInt8) + List.length (t14_1 : List UInt8) ≤ 9223372036854775807 ∧ (n18 X w0 n R σ' (.ptr (List.length σ) 0) (([42, 42, 42, 42, 42, 42, 42, 42, 42, 42, 42, 42, 42, 42, 42] ++ [32]) ++ t14_1)))))) (n18 X w0 n R σ' (.ptr (List.length σ) 0) [42, 42, 42, 42, 42, 42, 42, 42, 42, 42, 42, 42, 42, 42, 42]))))) := by kernel_rfl
theorem ok (w0 : Base) : FOK (cx w0) selvageref12_Hunk.id fe := ⟨Tryz.func14, by kernel_rfl, by kernel_rfl⟩
theorem calls {w0 : Base} {R : RT} {σ : Store} {h_ : AV} (h : b0 (X w0 (List.length σ)) w0 (List.length σ) R σ h_) : SCalls (cx w0) selvageref12_Hunk.id [h_] σ R :=
  xr_enter (cxOK w0) (x := fe) (S := cuts) (selvageref12_Hunk.ok w0) (by kernel_rfl) h
end selvageref12_Hunk
namespace selvageref12_Print
def lvs : List (List Nat) := [[0, 1, 2], [0, 1, 2], [2, 3, 4], [2, 3, 4], [2, 3, 4, 8], [2, 3, 4, 8], [2, 3, 4, 8], [2, 3, 4, 8, 18], [8], [8], [6, 7], [2, 3, 4], [2, 3, 4], [2, 3, 4], [2, 9], [2, 9], [2, 9], [2, 9, 10], [2, 9, 10], [2, 9, 10], [2, 9, 10], [2, 9, 10], [2, 9, 10, 32], [2, 9, 10], [9], [2, 9, 10], [2, 9, 10], [2, 9, 10], [2, 9, 10], [2, 9, 10, 11], [2, 9, 10], [9], [9], [6, 7]]
def lv : Nat → List Nat := lvOf lvs
noncomputable def code : Code := bodyOf Tryz.f10
noncomputable def fe : FE := ⟨Tryz.f10, code, lv⟩
def cuts : List Nat := [19, 31]
abbrev X (w0 : Base) (n : Nat) : XT := xr (cx w0) 48 lv n
def q15 (X : XT) (w0 : Base) (n : Nat) (R : RT) : QT := thenQ (fun env σ => X (cAt code 31) 31 (prune (lv 31) env) σ (finQ (cx w0) Tryz.f10 n R)) (finQ (cx w0) Tryz.f10 n R)
def q18 (X : XT) (w0 : Base) (n : Nat) (R : RT) : QT := blockQ 0 (q15 X w0 n R)
def q19 (X : XT) (w0 : Base) (n : Nat) (R : RT) : QT := thenQ (fun env σ => X (cAt code 18) 18 (prune (lv 18) env) σ (q18 X w0 n R)) (q18 X w0 n R)
def n18 (X : XT) (w0 : Base) (n : Nat) (R : RT) (σ : Store) (l_ : AV) (out : AV) (i : Int) : Prop :=
  X (cAt code 18) 18 [(2, l_), (9, out), (10, (.pv (.int .i64 i)))] σ (q18 X w0 n R)
def b19 (X : XT) (w0 : Base) (n : Nat) (R : RT) (σ : Store) (l_ : AV) (out : AV) (i : Int) : Prop :=
  pcodeX (cx w0) 48 lv n cuts X (cAt code 19) 19 [(2, l_), (9, out), (10, (.pv (.int .i64 i)))] σ (q19 X w0 n R)
def n31 (X : XT) (w0 : Base) (n : Nat) (R : RT) (σ : Store) (out : AV) : Prop :=
  X (cAt code 31) 31 [(9, out)] σ (finQ (cx w0) Tryz.f10 n R)
def b31 (X : XT) (w0 : Base) (n : Nat) (R : RT) (σ : Store) (out : AV) : Prop :=
  pcodeX (cx w0) 48 lv n cuts X (cAt code 31) 31 [(9, out)] σ (finQ (cx w0) Tryz.f10 n R)
def b0 (X : XT) (w0 : Base) (n : Nat) (R : RT) (σ : Store) (old : AV) (new_ : AV) (l_ : AV) : Prop :=
  pcodeX (cx w0) 48 lv n cuts X code 0 (argsE 0 [old, new_, l_]) σ (finQ (cx w0) Tryz.f10 n R)
theorem n18_in {w0 : Base} {n : Nat} {R : RT} {σ : Store} {l_ : AV} {out : AV} {i : Int} (h : b19 (X w0 n) w0 n R σ l_ out i) : n18 (X w0 n) w0 n R σ l_ out i := xr_round (cxOK w0) (S := cuts) (by kernel_rfl : cAt code 18 = .loop (cAt code 19)) h
theorem b19_eq (X : XT) (w0 : Base) (n : Nat) (R : RT) (σ : Store) (l_ : AV) (out : AV) (i : Int) : b19 X w0 n R σ l_ out i = (
  opt (aLen ti24.td l_) fun t31 => isI .i64 t31 fun t31_1 => condB (decide ((i : Int) < t31_1)) (opt (aIndexAddr σ tabS ti24.td l_ i) fun t38 => opt (aLoad σ ti39 t38) fun t39 => SCalls (cx w0) selvageref12_Hunk.id [t39] σ fun r σ' => isTup r fun vs => opt ((vs)[0]?) fun t41 => isS t41 fun t41_1 => isTup r fun vs_1 => opt ((vs_1)[1]?) fun t42 => isI .i64 t42 fun t42_1 => opt2 (aAppend σ' ti5 out (.pv (.str t41_1))) fun t45 σ'_1 => n18 X w0 n R σ'_1 l_ t45 (IntKind.wrap .i64 (i + 1))) (n31 X w0 n R σ out)) := by kernel_rfl
theorem b31_eq (X : XT) (w0 : Base) (n : Nat) (R : RT) (σ : Store) (out : AV) : b31 X w0 n R σ out = (
  opt2 (aConvert σ tabS ti56.td ti9.td out) fun t47 σ' => isS t47 fun t47_1 => FinK (cx w0) n (.tup [(.pv (.str t47_1)), (.pv (.int .i64 0))]) σ' R) := by kernel_rfl
theorem n31_in {w0 : Base} {n : Nat} {R : RT} {σ : Store} {out : AV} (h : b31 (X w0 n) w0 n R σ out) : n31 (X w0 n) w0 n R σ out := xr_in (S := cuts) (by kernel_rfl) h
theorem b0_eq (X : XT) (w0 : Base) (n : Nat) (R : RT) (σ : Store) (old : AV) (new_ : AV) (l_ : AV) : b0 X w0 n R σ old new_ l_ = (
  ((AV.cells old).all AV.one = true ∧ (((AV.cells new_).all AV.one = true ∧ (opt (aLoad ((σ ++ [.cells 23 (AV.cells old)]) ++ [.cells 23 (AV.cells new_)]) ti23 (.ptr (List.length σ) 0)) fun t13 => opt (aLoad ((σ ++ [.cells 23 (AV.cells old)]) ++ [.cells 23 (AV.cells new_)]) ti23 (.ptr (List.length (σ ++ [.cells 23 (AV.cells old)])) 0)) fun t14 => SCalls (cx w0) selvageref11_Faults.id [t13, t14, l_] ((σ ++ [.cells 23 (AV.cells old)]) ++ [.cells 23 (AV.cells new_)]) fun r σ' => isI .i64 r fun t16 => condB ((t16 : Int) != 0) (FinK (cx w0) n (.tup [(.pv (.str [])), (.pv (.int .i64 t16))]) σ' R) (opt (aLoad σ' ti23 (.ptr (List.length σ) 0)) fun t20 => opt (aLoad σ' ti23 (.ptr (List.length (σ ++ [.cells 23 (AV.cells old)])) 0)) fun t24 => SCalls (cx w0) selvageref11_Shown.id [t20] σ' fun r_1 σ'_1 => isS r_1 fun t21 => ((opt (aLoad σ'_1 ti23 (.ptr (List.length (σ ++ [.cells 23 (AV.cells old)])) 0)) fun t24_1 => ((t24_1 : AV) = t24)) ∧ ((List.length ([42, 42, 42, 32] : List UInt8) + List.length (t21 : List UInt8) ≤ 9223372036854775807 ∧ ((List.length (([42, 42, 42, 32] ++ t21) : List UInt8) + List.length ([10, 45, 45, 45, 32] : List UInt8) ≤ 9223372036854775807 ∧ (SCalls (cx w0) selvageref11_Shown.id [t24] σ'_1 fun r_2 σ'_2 => isS r_2 fun t25 => (List.length ((([42, 42, 42, 32] ++ t21) ++ [10, 45, 45, 45, 32]) : List UInt8) + List.length (t25 : List UInt8) ≤ 9223372036854775807 ∧ ((List.length (((([42, 42, 42, 32] ++ t21) ++ [10, 45, 45, 45, 32]) ++ t25) : List UInt8) + List.length ([10] : List UInt8) ≤ 9223372036854775807 ∧ (opt2 (aConvert σ'_2 tabS ti9.td ti56.td (.pv (.str (((([42, 42, 42, 32] ++ t21) ++ [10, 45, 45, 45, 32]) ++ t25) ++ [10])))) fun t28 σ'_3 => n18 X w0 n R σ'_3 l_ t28 0)))))))))))))))) := by kernel_rfl
theorem ok (w0 : Base) : FOK (cx w0) selvageref12_Print.id fe := ⟨Tryz.func10, by kernel_rfl, by kernel_rfl⟩
theorem calls {w0 : Base} {R : RT} {σ : Store} {old : AV} {new_ : AV} {l_ : AV} (h : b0 (X w0 (List.length σ)) w0 (List.length σ) R σ old new_ l_) : SCalls (cx w0) selvageref12_Print.id [old, new_, l_] σ R :=
  xr_enter (cxOK w0) (x := fe) (S := cuts) (selvageref12_Print.ok w0) (by kernel_rfl) h
end selvageref12_Print
end Go.Sv
