/- What the code of Go functions comes to over abstract stores, piece by piece; each equation by the kernel. Printed by a program of this session. -/
import Derived.Test.YtjonnhjaiiingaaGreatDoorSvT
import Derived.KernelRfl
set_option linter.unusedVariables false
set_option maxRecDepth 100000
namespace Go.Sv
open Go Go.Proofs
namespace lines_Split
def lvs : List (List Nat) := [[0], [0], [0], [0], [0, 3], [0, 3], [0, 3], [0, 3], [0, 3], [0, 3], [0, 3, 6], [0, 3], [3], [0, 3], [0, 3], [0, 3], [0, 3, 4], [0, 3, 4], [0, 3, 4], [0, 3, 4, 11], [0, 3], [0, 3, 4], [0, 3, 4], [0, 3, 4], [0, 3, 4], [3], [3], [2]]
def lv : Nat → List Nat := lvOf lvs
noncomputable def code : Code := bodyOf Tryz.f28
noncomputable def fe : FE := ⟨Tryz.f28, code, lv⟩
def cuts : List Nat := [7, 22, 25]
abbrev X (w0 : Base) (n : Nat) : XT := xr (cx w0) 24 lv n
def q5 (X : XT) (w0 : Base) (n : Nat) (R : RT) : QT := thenQ (fun env σ => X (cAt code 25) 25 (prune (lv 25) env) σ (finQ (cx w0) Tryz.f28 n R)) (finQ (cx w0) Tryz.f28 n R)
def q6 (X : XT) (w0 : Base) (n : Nat) (R : RT) : QT := blockQ 0 (q5 X w0 n R)
def q7 (X : XT) (w0 : Base) (n : Nat) (R : RT) : QT := thenQ (fun env σ => X (cAt code 6) 6 (prune (lv 6) env) σ (q6 X w0 n R)) (q6 X w0 n R)
def q14 (X : XT) (w0 : Base) (n : Nat) (R : RT) : QT := blockQ 1 (q7 X w0 n R)
def n6 (X : XT) (w0 : Base) (n : Nat) (R : RT) (σ : Store) (s : List UInt8) (out : AV) : Prop :=
  X (cAt code 6) 6 [(0, (.pv (.str s))), (3, out)] σ (q6 X w0 n R)
def b7 (X : XT) (w0 : Base) (n : Nat) (R : RT) (σ : Store) (s : List UInt8) (out : AV) : Prop :=
  pcodeX (cx w0) 24 lv n cuts X (cAt code 7) 7 [(0, (.pv (.str s))), (3, out)] σ (q7 X w0 n R)
def n22 (X : XT) (w0 : Base) (n : Nat) (R : RT) (σ : Store) (s : List UInt8) (out : AV) (at_ : Int) : Prop :=
  X (cAt code 22) 22 [(0, (.pv (.str s))), (3, out), (4, (.pv (.int .i64 at_)))] σ (q14 X w0 n R)
def b22 (X : XT) (w0 : Base) (n : Nat) (R : RT) (σ : Store) (s : List UInt8) (out : AV) (at_ : Int) : Prop :=
  pcodeX (cx w0) 24 lv n cuts X (cAt code 22) 22 [(0, (.pv (.str s))), (3, out), (4, (.pv (.int .i64 at_)))] σ (q14 X w0 n R)
def n25 (X : XT) (w0 : Base) (n : Nat) (R : RT) (σ : Store) (out : AV) : Prop :=
  X (cAt code 25) 25 [(3, out)] σ (finQ (cx w0) Tryz.f28 n R)
def b25 (X : XT) (w0 : Base) (n : Nat) (R : RT) (σ : Store) (out : AV) : Prop :=
  pcodeX (cx w0) 24 lv n cuts X (cAt code 25) 25 [(3, out)] σ (finQ (cx w0) Tryz.f28 n R)
def b0 (X : XT) (w0 : Base) (n : Nat) (R : RT) (σ : Store) (s : List UInt8) : Prop :=
  pcodeX (cx w0) 24 lv n cuts X code 0 (argsE 0 [(.pv (.str s))]) σ (finQ (cx w0) Tryz.f28 n R)
theorem n6_in {w0 : Base} {n : Nat} {R : RT} {σ : Store} {s : List UInt8} {out : AV} (h : b7 (X w0 n) w0 n R σ s out) : n6 (X w0 n) w0 n R σ s out := xr_round (cxOK w0) (S := cuts) (by kernel_rfl : cAt code 6 = .loop (cAt code 7)) h
theorem n6_weak {w0 : Base} {n : Nat} {R : RT} {σ τ : Store} {s : List UInt8} {out : AV} {s' : List UInt8} {out' : AV} (e : EWeak (cx w0) n [(0, (.pv (.str s))), (3, out)] σ [(0, (.pv (.str s'))), (3, out')] τ) (h : n6 (X w0 n) w0 n R τ s' out') : n6 (X w0 n) w0 n R σ s out := xr_weak (L := lv) (k := 6) (by kernel_rfl : cAt code 6 = .loop (cAt code 7)) e h
theorem b7_eq (X : XT) (w0 : Base) (n : Nat) (R : RT) (σ : Store) (s : List UInt8) (out : AV) : b7 X w0 n R σ s out = (
  condB (!((s : List UInt8) == [])) (SCalls (cx w0) strings_IndexByte.id [(.pv (.str s)), (.pv (.int .u8 10))] σ fun r σ' => isI .i64 r fun t8 => condB (((IntKind.wrap .i64 (t8 + 1)) : Int) == 0) (n22 X w0 n R σ' s out (List.length (s : List UInt8) : Int)) (n22 X w0 n R σ' s out (IntKind.wrap .i64 (t8 + 1)))) (n25 X w0 n R σ out)) := by kernel_rfl
theorem b22_eq (X : XT) (w0 : Base) (n : Nat) (R : RT) (σ : Store) (s : List UInt8) (out : AV) (at_ : Int) : b22 X w0 n R σ s out at_ = (
  opt (aSlice σ tabS ti9.td (.pv (.str s)) none (some (.pv (.int .i64 at_)))) fun t17 => isS t17 fun t17_1 => opt2 (aBuildSlice σ ti9 false 1 [(0, (.pv (.str t17_1)))]) fun t18 σ' => opt2 (aAppend σ' ti9 out t18) fun t19 σ'_1 => opt (aSlice σ'_1 tabS ti9.td (.pv (.str s)) (some (.pv (.int .i64 at_))) none) fun t22 => isS t22 fun t22_1 => n6 X w0 n R σ'_1 t22_1 t19) := by kernel_rfl
theorem n22_in {w0 : Base} {n : Nat} {R : RT} {σ : Store} {s : List UInt8} {out : AV} {at_ : Int} (h : b22 (X w0 n) w0 n R σ s out at_) : n22 (X w0 n) w0 n R σ s out at_ := xr_in (S := cuts) (by kernel_rfl) h
theorem b25_eq (X : XT) (w0 : Base) (n : Nat) (R : RT) (σ : Store) (out : AV) : b25 X w0 n R σ out = (
  FinK (cx w0) n out σ R) := by kernel_rfl
theorem n25_in {w0 : Base} {n : Nat} {R : RT} {σ : Store} {out : AV} (h : b25 (X w0 n) w0 n R σ out) : n25 (X w0 n) w0 n R σ out := xr_in (S := cuts) (by kernel_rfl) h
theorem b0_eq (X : XT) (w0 : Base) (n : Nat) (R : RT) (σ : Store) (s : List UInt8) : b0 X w0 n R σ s = (
  n6 X w0 n R σ s .nilsl) := by kernel_rfl
theorem ok (w0 : Base) : FOK (cx w0) lines_Split.id fe := ⟨Tryz.func28, by kernel_rfl, by kernel_rfl⟩
theorem calls {w0 : Base} {R : RT} {σ : Store} {s : List UInt8} (h : b0 (X w0 (List.length σ)) w0 (List.length σ) R σ s) : SCalls (cx w0) lines_Split.id [(.pv (.str s))] σ R :=
  xr_enter (cxOK w0) (x := fe) (S := cuts) (lines_Split.ok w0) (by kernel_rfl) h
end lines_Split
namespace quote_meant
def lvs : List (List Nat) := [[0], [0], [0], [0], [0], [0, 4], [0, 4], [0, 4], [0, 4], [0, 4], [0, 4, 6], [0, 4], [], [0, 4], [0, 4], [0, 4], [0, 4], [0, 4, 13], [4], [4], [2, 3], [0, 4], [0, 4], [], [], [2, 3]]
def lv : Nat → List Nat := lvOf lvs
noncomputable def code : Code := bodyOf Tryz.f90
noncomputable def fe : FE := ⟨Tryz.f90, code, lv⟩
theorem ok (w0 : Base) : FOK (cx w0) quote_meant.id fe := ⟨Tryz.func90, by kernel_rfl, by kernel_rfl⟩
end quote_meant
namespace quote_octal
def lvs : List (List Nat) := [[0], [0], [0], [0], [0], [0, 13], [], [], [2, 3], [0], [0], [0], [0, 4], [0, 4], [0, 4], [0, 4, 14], [0, 4, 14], [0, 4, 14], [0, 4, 14], [0, 4, 14, 15], [0, 4, 14, 15], [0, 4, 14], [4], [0, 4, 14], [0, 4, 14], [0, 4, 14], [0, 4, 14], [0, 4, 5, 14], [0, 4, 5, 14], [0, 4, 5, 14], [0, 4, 5, 14, 26], [], [], [2, 3], [0, 4, 5, 14], [0, 4, 5, 14], [0, 4, 14], [4], [4], [2, 3]]
def lv : Nat → List Nat := lvOf lvs
noncomputable def code : Code := bodyOf Tryz.f91
noncomputable def fe : FE := ⟨Tryz.f91, code, lv⟩
def cuts : List Nat := [5, 17, 30, 37]
abbrev X (w0 : Base) (n : Nat) : XT := xr (cx w0) 38 lv n
def q3 (X : XT) (w0 : Base) (n : Nat) (R : RT) : QT := thenQ (fun env σ => pcodeX (cx w0) 38 lv n cuts X (cAt code 10) 10 (prune (lv 10) env) σ (finQ (cx w0) Tryz.f91 n R)) (finQ (cx w0) Tryz.f91 n R)
def q13 (X : XT) (w0 : Base) (n : Nat) (R : RT) : QT := thenQ (fun env σ => X (cAt code 37) 37 (prune (lv 37) env) σ (finQ (cx w0) Tryz.f91 n R)) (finQ (cx w0) Tryz.f91 n R)
def q16 (X : XT) (w0 : Base) (n : Nat) (R : RT) : QT := blockQ 0 (q13 X w0 n R)
def q17 (X : XT) (w0 : Base) (n : Nat) (R : RT) : QT := thenQ (fun env σ => X (cAt code 16) 16 (prune (lv 16) env) σ (q16 X w0 n R)) (q16 X w0 n R)
def q24 (X : XT) (w0 : Base) (n : Nat) (R : RT) : QT := thenQ (fun env σ => pcodeX (cx w0) 38 lv n cuts X (cAt code 36) 36 (prune (lv 36) env) σ (q17 X w0 n R)) (q17 X w0 n R)
def q25 (X : XT) (w0 : Base) (n : Nat) (R : RT) : QT := blockQ 1 (q24 X w0 n R)
def q28 (X : XT) (w0 : Base) (n : Nat) (R : RT) : QT := thenQ (fun env σ => pcodeX (cx w0) 38 lv n cuts X (cAt code 35) 35 (prune (lv 35) env) σ (q25 X w0 n R)) (q25 X w0 n R)
def n5 (X : XT) (w0 : Base) (n : Nat) (R : RT) (σ : Store) (s : List UInt8) (t13 : Bool) : Prop :=
  X (cAt code 5) 5 [(0, (.pv (.str s))), (13, (.pv (.bool t13)))] σ (q3 X w0 n R)
def b5 (X : XT) (w0 : Base) (n : Nat) (R : RT) (σ : Store) (s : List UInt8) (t13 : Bool) : Prop :=
  pcodeX (cx w0) 38 lv n cuts X (cAt code 5) 5 [(0, (.pv (.str s))), (13, (.pv (.bool t13)))] σ (q3 X w0 n R)
def n16 (X : XT) (w0 : Base) (n : Nat) (R : RT) (σ : Store) (s : List UInt8) (n_ : Int) (t14 : Int) : Prop :=
  X (cAt code 16) 16 [(0, (.pv (.str s))), (4, (.pv (.int .i64 n_))), (14, (.pv (.int .i64 t14)))] σ (q16 X w0 n R)
def b17 (X : XT) (w0 : Base) (n : Nat) (R : RT) (σ : Store) (s : List UInt8) (n_ : Int) (t14 : Int) : Prop :=
  pcodeX (cx w0) 38 lv n cuts X (cAt code 17) 17 [(0, (.pv (.str s))), (4, (.pv (.int .i64 n_))), (14, (.pv (.int .i64 t14)))] σ (q17 X w0 n R)
def n30 (X : XT) (w0 : Base) (n : Nat) (R : RT) (σ : Store) (s : List UInt8) (n_ : Int) (i : Int) (t14 : Int) (t26 : Bool) : Prop :=
  X (cAt code 30) 30 [(0, (.pv (.str s))), (4, (.pv (.int .i64 n_))), (5, (.pv (.int .i64 i))), (14, (.pv (.int .i64 t14))), (26, (.pv (.bool t26)))] σ (q28 X w0 n R)
def b30 (X : XT) (w0 : Base) (n : Nat) (R : RT) (σ : Store) (s : List UInt8) (n_ : Int) (i : Int) (t14 : Int) (t26 : Bool) : Prop :=
  pcodeX (cx w0) 38 lv n cuts X (cAt code 30) 30 [(0, (.pv (.str s))), (4, (.pv (.int .i64 n_))), (5, (.pv (.int .i64 i))), (14, (.pv (.int .i64 t14))), (26, (.pv (.bool t26)))] σ (q28 X w0 n R)
def n37 (X : XT) (w0 : Base) (n : Nat) (R : RT) (σ : Store) (n_ : Int) : Prop :=
  X (cAt code 37) 37 [(4, (.pv (.int .i64 n_)))] σ (finQ (cx w0) Tryz.f91 n R)
def b37 (X : XT) (w0 : Base) (n : Nat) (R : RT) (σ : Store) (n_ : Int) : Prop :=
  pcodeX (cx w0) 38 lv n cuts X (cAt code 37) 37 [(4, (.pv (.int .i64 n_)))] σ (finQ (cx w0) Tryz.f91 n R)
def b0 (X : XT) (w0 : Base) (n : Nat) (R : RT) (σ : Store) (s : List UInt8) : Prop :=
  pcodeX (cx w0) 38 lv n cuts X code 0 (argsE 0 [(.pv (.str s))]) σ (finQ (cx w0) Tryz.f91 n R)
theorem b5_eq (X : XT) (w0 : Base) (n : Nat) (R : RT) (σ : Store) (s : List UInt8) (t13 : Bool) : b5 X w0 n R σ s t13 = (
  condB t13 (FinK (cx w0) n (.tup [(.pv (.int .u8 0)), (.pv (.bool false))]) σ R) (n16 X w0 n R σ s 0 0)) := by kernel_rfl
theorem n5_in {w0 : Base} {n : Nat} {R : RT} {σ : Store} {s : List UInt8} {t13 : Bool} (h : b5 (X w0 n) w0 n R σ s t13) : n5 (X w0 n) w0 n R σ s t13 := xr_in (S := cuts) (by kernel_rfl) h
theorem n16_in {w0 : Base} {n : Nat} {R : RT} {σ : Store} {s : List UInt8} {n_ : Int} {t14 : Int} (h : b17 (X w0 n) w0 n R σ s n_ t14) : n16 (X w0 n) w0 n R σ s n_ t14 := xr_round (cxOK w0) (S := cuts) (by kernel_rfl : cAt code 16 = .loop (cAt code 17)) h
theorem b17_eq (X : XT) (w0 : Base) (n : Nat) (R : RT) (σ : Store) (s : List UInt8) (n_ : Int) (t14 : Int) : b17 X w0 n R σ s n_ t14 = (
  condB (decide ((t14 : Int) < 3)) (opt (aIndex tabS ti9.td (.pv (.str s)) t14) fun t19 => isI .u8 t19 fun t19_1 => condB (decide ((t19_1 : Int) < 48)) (n30 X w0 n R σ s n_ t14 t14 true) (opt (aIndex tabS ti9.td (.pv (.str s)) t14) fun t24 => isI .u8 t24 fun t24_1 => n30 X w0 n R σ s n_ t14 t14 (decide ((t24_1 : Int) > 55)))) (n37 X w0 n R σ n_)) := by kernel_rfl
theorem b30_eq (X : XT) (w0 : Base) (n : Nat) (R : RT) (σ : Store) (s : List UInt8) (n_ : Int) (i : Int) (t14 : Int) (t26 : Bool) : b30 X w0 n R σ s n_ i t14 t26 = (
  condB t26 (FinK (cx w0) n (.tup [(.pv (.int .u8 0)), (.pv (.bool false))]) σ R) (opt (aIndex tabS ti9.td (.pv (.str s)) i) fun t31 => isI .u8 t31 fun t31_1 => n16 X w0 n R σ s (IntKind.wrap .i64 ((IntKind.wrap .i64 (n_ * 8)) + (IntKind.wrap .i64 (IntKind.wrap .u8 (t31_1 - 48))))) (IntKind.wrap .i64 (t14 + 1)))) := by kernel_rfl
theorem n30_in {w0 : Base} {n : Nat} {R : RT} {σ : Store} {s : List UInt8} {n_ : Int} {i : Int} {t14 : Int} {t26 : Bool} (h : b30 (X w0 n) w0 n R σ s n_ i t14 t26) : n30 (X w0 n) w0 n R σ s n_ i t14 t26 := xr_in (S := cuts) (by kernel_rfl) h
theorem b37_eq (X : XT) (w0 : Base) (n : Nat) (R : RT) (σ : Store) (n_ : Int) : b37 X w0 n R σ n_ = (
  FinK (cx w0) n (.tup [(.pv (.int .u8 (IntKind.wrap .u8 n_))), (.pv (.bool true))]) σ R) := by kernel_rfl
theorem n37_in {w0 : Base} {n : Nat} {R : RT} {σ : Store} {n_ : Int} (h : b37 (X w0 n) w0 n R σ n_) : n37 (X w0 n) w0 n R σ n_ := xr_in (S := cuts) (by kernel_rfl) h
theorem b0_eq (X : XT) (w0 : Base) (n : Nat) (R : RT) (σ : Store) (s : List UInt8) : b0 X w0 n R σ s = (
  condB (decide (((List.length (s : List UInt8) : Int) : Int) < 3)) (n5 X w0 n R σ s true) (opt (aIndex tabS ti9.td (.pv (.str s)) 0) fun t11 => isI .u8 t11 fun t11_1 => n5 X w0 n R σ s (decide ((t11_1 : Int) > 51)))) := by kernel_rfl
theorem ok (w0 : Base) : FOK (cx w0) quote_octal.id fe := ⟨Tryz.func91, by kernel_rfl, by kernel_rfl⟩
theorem calls {w0 : Base} {R : RT} {σ : Store} {s : List UInt8} (h : b0 (X w0 (List.length σ)) w0 (List.length σ) R σ s) : SCalls (cx w0) quote_octal.id [(.pv (.str s))] σ R :=
  xr_enter (cxOK w0) (x := fe) (S := cuts) (quote_octal.ok w0) (by kernel_rfl) h
end quote_octal
namespace quote_Unquote
def lvs : List (List Nat) := [[0], [0], [0], [0], [0], [0, 16], [0], [0], [0, 5], [0, 5], [0, 5], [0, 5, 20], [0], [0, 5], [0, 5], [0, 5], [2, 3, 4], [0], [0], [0], [0, 6], [0, 6], [0, 6], [0, 6, 7], [0, 6, 7], [0, 6, 7], [0, 6, 7], [0, 6, 7], [0, 6, 7, 32], [0, 6, 7], [], [0, 6, 7], [0, 6, 7], [0, 6, 7], [0, 6, 7], [0, 6, 7, 8], [0, 6, 7, 8], [0, 6, 7, 8], [0, 6, 7, 8, 36], [0, 6, 7], [0, 6, 7], [2, 3, 4], [0, 6, 7, 8], [0, 6, 7, 8], [0, 6, 7, 8, 45], [], [], [2, 3, 4], [0, 6, 7, 8], [0, 6, 7, 8], [0, 6, 7, 8, 49], [0, 6, 7, 8], [0, 6, 7, 8], [0, 6, 7], [0, 6, 7], [0, 6, 7], [0, 6, 7], [0, 6, 7], [0, 6, 7], [0, 6, 7, 9], [0, 6, 7, 9], [0, 6, 7, 9], [0, 6, 7, 9, 63], [], [0, 6, 7, 9], [0, 6, 7, 9], [0, 6, 7, 9], [0, 6, 7, 9], [0, 6, 7, 9, 10, 11], [0, 6, 7, 9, 10, 11], [0, 6, 7, 9, 10, 70], [0, 6, 7, 10], [0, 6, 7, 10], [0, 6, 7], [0, 6, 7], [0, 6, 7], [0, 6, 7, 9], [0, 6, 7, 9], [0, 6, 7, 9], [0, 6, 7, 12, 13], [0, 6, 7, 12, 13], [0, 6, 7, 12, 13], [0, 6, 7, 12, 83], [], [], [2, 3, 4], [0, 6, 7, 12], [0, 6, 7, 12], [0, 6, 7, 12], [0, 6, 7], [], [], [2, 3, 4]]
def lv : Nat → List Nat := lvOf lvs
noncomputable def code : Code := bodyOf Tryz.f77
noncomputable def fe : FE := ⟨Tryz.f77, code, lv⟩
def cuts : List Nat := [14, 25, 90]
abbrev X (w0 : Base) (n : Nat) : XT := xr (cx w0) 92 lv n
def q3 (X : XT) (w0 : Base) (n : Nat) (R : RT) : QT := thenQ (fun env σ => pcodeX (cx w0) 92 lv n cuts X (cAt code 18) 18 (prune (lv 18) env) σ (finQ (cx w0) Tryz.f77 n R)) (finQ (cx w0) Tryz.f77 n R)
def q21 (X : XT) (w0 : Base) (n : Nat) (R : RT) : QT := thenQ (fun env σ => X (cAt code 90) 90 (prune (lv 90) env) σ (finQ (cx w0) Tryz.f77 n R)) (finQ (cx w0) Tryz.f77 n R)
def q24 (X : XT) (w0 : Base) (n : Nat) (R : RT) : QT := blockQ 0 (q21 X w0 n R)
def q25 (X : XT) (w0 : Base) (n : Nat) (R : RT) : QT := thenQ (fun env σ => X (cAt code 24) 24 (prune (lv 24) env) σ (q24 X w0 n R)) (q24 X w0 n R)
def n14 (X : XT) (w0 : Base) (n : Nat) (R : RT) (σ : Store) (text : List UInt8) (n_ : Int) : Prop :=
  X (cAt code 14) 14 [(0, (.pv (.str text))), (5, (.pv (.int .i64 n_)))] σ (q3 X w0 n R)
def b14 (X : XT) (w0 : Base) (n : Nat) (R : RT) (σ : Store) (text : List UInt8) (n_ : Int) : Prop :=
  pcodeX (cx w0) 92 lv n cuts X (cAt code 14) 14 [(0, (.pv (.str text))), (5, (.pv (.int .i64 n_)))] σ (q3 X w0 n R)
def n24 (X : XT) (w0 : Base) (n : Nat) (R : RT) (σ : Store) (text : List UInt8) (b : AV) (i : Int) : Prop :=
  X (cAt code 24) 24 [(0, (.pv (.str text))), (6, b), (7, (.pv (.int .i64 i)))] σ (q24 X w0 n R)
def b25 (X : XT) (w0 : Base) (n : Nat) (R : RT) (σ : Store) (text : List UInt8) (b : AV) (i : Int) : Prop :=
  pcodeX (cx w0) 92 lv n cuts X (cAt code 25) 25 [(0, (.pv (.str text))), (6, b), (7, (.pv (.int .i64 i)))] σ (q25 X w0 n R)
def n90 (X : XT) (w0 : Base) (n : Nat) (R : RT) (σ : Store) : Prop :=
  X (cAt code 90) 90 [] σ (finQ (cx w0) Tryz.f77 n R)
def b90 (X : XT) (w0 : Base) (n : Nat) (R : RT) (σ : Store) : Prop :=
  pcodeX (cx w0) 92 lv n cuts X (cAt code 90) 90 [] σ (finQ (cx w0) Tryz.f77 n R)
def b0 (X : XT) (w0 : Base) (n : Nat) (R : RT) (σ : Store) (text : List UInt8) : Prop :=
  pcodeX (cx w0) 92 lv n cuts X code 0 (argsE 0 [(.pv (.str text))]) σ (finQ (cx w0) Tryz.f77 n R)
theorem b14_eq (X : XT) (w0 : Base) (n : Nat) (R : RT) (σ : Store) (text : List UInt8) (n_ : Int) : b14 X w0 n R σ text n_ = (
  opt (aSlice σ tabS ti9.td (.pv (.str text)) none (some (.pv (.int .i64 n_)))) fun t25 => isS t25 fun t25_1 => opt (aSlice σ tabS ti9.td (.pv (.str text)) (some (.pv (.int .i64 n_))) none) fun t28 => isS t28 fun t28_1 => ((opt (aSlice σ tabS ti9.td (.pv (.str text)) (some (.pv (.int .i64 n_))) none) fun t28_2 => ((t28_2 : AV) = (.pv (.str t28_1)))) ∧ (FinK (cx w0) n (.tup [(.pv (.str t25_1)), (.pv (.str t28_1)), (.pv (.raw .nilIface))]) σ R))) := by kernel_rfl
theorem n14_in {w0 : Base} {n : Nat} {R : RT} {σ : Store} {text : List UInt8} {n_ : Int} (h : b14 (X w0 n) w0 n R σ text n_) : n14 (X w0 n) w0 n R σ text n_ := xr_in (S := cuts) (by kernel_rfl) h
theorem n24_in {w0 : Base} {n : Nat} {R : RT} {σ : Store} {text : List UInt8} {b : AV} {i : Int} (h : b25 (X w0 n) w0 n R σ text b i) : n24 (X w0 n) w0 n R σ text b i := xr_round (cxOK w0) (S := cuts) (by kernel_rfl : cAt code 24 = .loop (cAt code 25)) h
theorem n24_weak {w0 : Base} {n : Nat} {R : RT} {σ τ : Store} {text : List UInt8} {b : AV} {i : Int} {text' : List UInt8} {b' : AV} {i' : Int} (e : EWeak (cx w0) n [(0, (.pv (.str text))), (6, b), (7, (.pv (.int .i64 i)))] σ [(0, (.pv (.str text'))), (6, b'), (7, (.pv (.int .i64 i')))] τ) (h : n24 (X w0 n) w0 n R τ text' b' i') : n24 (X w0 n) w0 n R σ text b i := xr_weak (L := lv) (k := 24) (by kernel_rfl : cAt code 24 = .loop (cAt code 25)) e h
theorem b25_eq (X : XT) (w0 : Base) (n : Nat) (R : RT) (σ : Store) (text : List UInt8) (b : AV) (i : Int) : b25 X w0 n R σ text b i = (
  condB (decide ((i : Int) < (List.length (text : List UInt8) : Int))) (opt (aIndex tabS ti9.td (.pv (.str text)) i) fun t35 => isI .u8 t35 fun t35_1 => condB ((t35_1 : Int) == 34) (opt2 (aConvert σ tabS ti54.td ti9.td b) fun t40 σ' => isS t40 fun t40_1 => opt (aSlice σ tabS ti9.td (.pv (.str text)) (some (.pv (.int .i64 (IntKind.wrap .i64 (i + 1))))) none) fun t44 => isS t44 fun t44_1 => ((opt (aSlice σ tabS ti9.td (.pv (.str text)) (some (.pv (.int .i64 (IntKind.wrap .i64 (i + 1))))) none) fun t44_2 => ((t44_2 : AV) = (.pv (.str t44_1)))) ∧ (FinK (cx w0) n (.tup [(.pv (.str t40_1)), (.pv (.str t44_1)), (.pv (.raw .nilIface))]) σ R))) (condB ((t35_1 : Int) == 10) (opt (aMakeInterface 50 (.pv (.int .i64 20))) fun t48 => FinK (cx w0) n (.tup [(.pv (.str [])), (.pv (.str [])), t48]) σ R) (condB ((t35_1 : Int) != 92) (opt2 (aBuildSlice σ ti5 false 1 [(0, (.pv (.int .u8 t35_1)))]) fun t54 σ' => opt2 (aAppend σ' ti5 b t54) fun t55 σ'_1 => n24 X w0 n R σ'_1 text t55 (IntKind.wrap .i64 (i + 1))) (opt (aSlice σ tabS ti9.td (.pv (.str text)) (some (.pv (.int .i64 (IntKind.wrap .i64 (i + 1))))) none) fun t61 => isS t61 fun t61_1 => condB ((t61_1 : List UInt8) == []) (n90 X w0 n R σ) (opt (aIndex tabS ti9.td (.pv (.str t61_1)) 0) fun t66 => isI .u8 t66 fun t66_1 => SCalls (cx w0) quote_meant.id [(.pv (.int .u8 t66_1))] σ fun r σ' => isTup r fun vs => opt ((vs)[0]?) fun t68 => isI .u8 t68 fun t68_1 => isTup r fun vs_1 => opt ((vs_1)[1]?) fun t69 => isB t69 fun t69_1 => condB t69_1 (opt2 (aBuildSlice σ' ti5 false 1 [(0, (.pv (.int .u8 t68_1)))]) fun t73 σ'_1 => opt2 (aAppend σ'_1 ti5 b t73) fun t74 σ'_2 => n24 X w0 n R σ'_2 text t74 (IntKind.wrap .i64 (i + 2))) (SCalls (cx w0) quote_octal.id [(.pv (.str t61_1))] σ' fun r_1 σ'_1 => isTup r_1 fun vs_2 => opt ((vs_2)[0]?) fun t80 => isI .u8 t80 fun t80_1 => isTup r_1 fun vs_3 => opt ((vs_3)[1]?) fun t81 => isB t81 fun t81_1 => condB (!t81_1) (opt (aMakeInterface 50 (.pv (.int .i64 20))) fun t84 => FinK (cx w0) n (.tup [(.pv (.str [])), (.pv (.str [])), t84]) σ'_1 R) (opt2 (aBuildSlice σ'_1 ti5 false 1 [(0, (.pv (.int .u8 t80_1)))]) fun t87 σ'_2 => opt2 (aAppend σ'_2 ti5 b t87) fun t88 σ'_3 => n24 X w0 n R σ'_3 text t88 (IntKind.wrap .i64 (i + 4))))))))) (n90 X w0 n R σ)) := by kernel_rfl
theorem b90_eq (X : XT) (w0 : Base) (n : Nat) (R : RT) (σ : Store) : b90 X w0 n R σ = (
  opt (aMakeInterface 50 (.pv (.int .i64 20))) fun t91 => FinK (cx w0) n (.tup [(.pv (.str [])), (.pv (.str [])), t91]) σ R) := by kernel_rfl
theorem n90_in {w0 : Base} {n : Nat} {R : RT} {σ : Store} (h : b90 (X w0 n) w0 n R σ) : n90 (X w0 n) w0 n R σ := xr_in (S := cuts) (by kernel_rfl) h
theorem b0_eq (X : XT) (w0 : Base) (n : Nat) (R : RT) (σ : Store) (text : List UInt8) : b0 X w0 n R σ text = (
  SCalls (cx w0) strings_HasPrefix.id [(.pv (.str text)), (.pv (.str [34]))] σ fun r σ' => isB r fun t15 => condB (!t15) (SCalls (cx w0) strings_IndexAny.id [(.pv (.str text)), (.pv (.str [9, 10]))] σ' fun r_1 σ'_1 => isI .i64 r_1 fun t18 => condB (decide ((t18 : Int) < 0)) (n14 X w0 n R σ'_1 text (List.length (text : List UInt8) : Int)) (n14 X w0 n R σ'_1 text t18)) (n24 X w0 n R σ' text .nilsl 1)) := by kernel_rfl
theorem ok (w0 : Base) : FOK (cx w0) quote_Unquote.id fe := ⟨Tryz.func77, by kernel_rfl, by kernel_rfl⟩
theorem calls {w0 : Base} {R : RT} {σ : Store} {text : List UInt8} (h : b0 (X w0 (List.length σ)) w0 (List.length σ) R σ text) : SCalls (cx w0) quote_Unquote.id [(.pv (.str text))] σ R :=
  xr_enter (cxOK w0) (x := fe) (S := cuts) (quote_Unquote.ok w0) (by kernel_rfl) h
end quote_Unquote
namespace strings_CutPrefix
def lvs : List (List Nat) := [[0, 1], [0, 1], [0, 1], [0, 1], [4, 5]]
def lv : Nat → List Nat := lvOf lvs
noncomputable def code : Code := bodyOf Tryz.f94
noncomputable def fe : FE := ⟨Tryz.f94, code, lv⟩
def cuts : List Nat := []
abbrev X (w0 : Base) (n : Nat) : XT := xr (cx w0) 11 lv n
def b0 (X : XT) (w0 : Base) (n : Nat) (R : RT) (σ : Store) (s : List UInt8) (prefix_ : List UInt8) : Prop :=
  pcodeX (cx w0) 11 lv n cuts X code 0 (argsE 0 [(.pv (.str s)), (.pv (.str prefix_))]) σ (finQ (cx w0) Tryz.f94 n R)
theorem b0_eq (X : XT) (w0 : Base) (n : Nat) (R : RT) (σ : Store) (s : List UInt8) (prefix_ : List UInt8) : b0 X w0 n R σ s prefix_ = (
  SCalls (cx w0) stringslite_CutPrefix.id [(.pv (.str s)), (.pv (.str prefix_))] σ fun r σ' => isTup r fun vs => opt ((vs)[0]?) fun t9 => isS t9 fun t9_1 => isTup r fun vs_1 => opt ((vs_1)[1]?) fun t10 => isB t10 fun t10_1 => FinK (cx w0) n (.tup [(.pv (.str t9_1)), (.pv (.bool t10_1))]) σ' R) := by kernel_rfl
theorem ok (w0 : Base) : FOK (cx w0) strings_CutPrefix.id fe := ⟨Tryz.func94, by kernel_rfl, by kernel_rfl⟩
theorem calls {w0 : Base} {R : RT} {σ : Store} {s : List UInt8} {prefix_ : List UInt8} (h : b0 (X w0 (List.length σ)) w0 (List.length σ) R σ s prefix_) : SCalls (cx w0) strings_CutPrefix.id [(.pv (.str s)), (.pv (.str prefix_))] σ R :=
  xr_enter (cxOK w0) (x := fe) (S := cuts) (strings_CutPrefix.ok w0) (by kernel_rfl) h
end strings_CutPrefix
namespace stringslite_CutPrefix
def lvs : List (List Nat) := [[0, 1], [0, 1], [0, 1], [0, 1], [0, 1], [0, 1, 9], [0], [0], [4, 5], [0, 1], [0, 1], [0, 1], [4, 5]]
def lv : Nat → List Nat := lvOf lvs
noncomputable def code : Code := bodyOf Tryz.f105
noncomputable def fe : FE := ⟨Tryz.f105, code, lv⟩
def cuts : List Nat := []
abbrev X (w0 : Base) (n : Nat) : XT := xr (cx w0) 15 lv n
def b0 (X : XT) (w0 : Base) (n : Nat) (R : RT) (σ : Store) (s : List UInt8) (prefix_ : List UInt8) : Prop :=
  pcodeX (cx w0) 15 lv n cuts X code 0 (argsE 0 [(.pv (.str s)), (.pv (.str prefix_))]) σ (finQ (cx w0) Tryz.f105 n R)
theorem b0_eq (X : XT) (w0 : Base) (n : Nat) (R : RT) (σ : Store) (s : List UInt8) (prefix_ : List UInt8) : b0 X w0 n R σ s prefix_ = (
  SCalls (cx w0) stringslite_HasPrefix.id [(.pv (.str s)), (.pv (.str prefix_))] σ fun r σ' => isB r fun t8 => condB (!t8) (FinK (cx w0) n (.tup [(.pv (.str s)), (.pv (.bool false))]) σ' R) (opt (aSlice σ' tabS ti9.td (.pv (.str s)) (some (.pv (.int .i64 (List.length (prefix_ : List UInt8) : Int)))) none) fun t14 => isS t14 fun t14_1 => FinK (cx w0) n (.tup [(.pv (.str t14_1)), (.pv (.bool true))]) σ' R)) := by kernel_rfl
theorem ok (w0 : Base) : FOK (cx w0) stringslite_CutPrefix.id fe := ⟨Tryz.func105, by kernel_rfl, by kernel_rfl⟩
theorem calls {w0 : Base} {R : RT} {σ : Store} {s : List UInt8} {prefix_ : List UInt8} (h : b0 (X w0 (List.length σ)) w0 (List.length σ) R σ s prefix_) : SCalls (cx w0) stringslite_CutPrefix.id [(.pv (.str s)), (.pv (.str prefix_))] σ R :=
  xr_enter (cxOK w0) (x := fe) (S := cuts) (stringslite_CutPrefix.ok w0) (by kernel_rfl) h
end stringslite_CutPrefix
namespace stringslite_HasPrefix
def lvs : List (List Nat) := [[0, 1], [0, 1], [0, 1], [0, 1], [4]]
def lv : Nat → List Nat := lvOf lvs
noncomputable def code : Code := bodyOf Tryz.f80
noncomputable def fe : FE := ⟨Tryz.f80, code, lv⟩
def cuts : List Nat := [4]
abbrev X (w0 : Base) (n : Nat) : XT := xr (cx w0) 18 lv n
def n4 (X : XT) (w0 : Base) (n : Nat) (R : RT) (σ : Store) (t4 : Bool) : Prop :=
  X (cAt code 4) 4 [(4, (.pv (.bool t4)))] σ (finQ (cx w0) Tryz.f80 n R)
def b4 (X : XT) (w0 : Base) (n : Nat) (R : RT) (σ : Store) (t4 : Bool) : Prop :=
  pcodeX (cx w0) 18 lv n cuts X (cAt code 4) 4 [(4, (.pv (.bool t4)))] σ (finQ (cx w0) Tryz.f80 n R)
def b0 (X : XT) (w0 : Base) (n : Nat) (R : RT) (σ : Store) (s : List UInt8) (prefix_ : List UInt8) : Prop :=
  pcodeX (cx w0) 18 lv n cuts X code 0 (argsE 0 [(.pv (.str s)), (.pv (.str prefix_))]) σ (finQ (cx w0) Tryz.f80 n R)
theorem b4_eq (X : XT) (w0 : Base) (n : Nat) (R : RT) (σ : Store) (t4 : Bool) : b4 X w0 n R σ t4 = (
  FinK (cx w0) n (.pv (.bool t4)) σ R) := by kernel_rfl
theorem n4_in {w0 : Base} {n : Nat} {R : RT} {σ : Store} {t4 : Bool} (h : b4 (X w0 n) w0 n R σ t4) : n4 (X w0 n) w0 n R σ t4 := xr_in (S := cuts) (by kernel_rfl) h
theorem b0_eq (X : XT) (w0 : Base) (n : Nat) (R : RT) (σ : Store) (s : List UInt8) (prefix_ : List UInt8) : b0 X w0 n R σ s prefix_ = (
  condB (decide (((List.length (s : List UInt8) : Int) : Int) ≥ (List.length (prefix_ : List UInt8) : Int))) (opt (aSlice σ tabS ti9.td (.pv (.str s)) none (some (.pv (.int .i64 (List.length (prefix_ : List UInt8) : Int))))) fun t14 => isS t14 fun t14_1 => n4 X w0 n R σ ((t14_1 : List UInt8) == prefix_)) (n4 X w0 n R σ false)) := by kernel_rfl
theorem ok (w0 : Base) : FOK (cx w0) stringslite_HasPrefix.id fe := ⟨Tryz.func80, by kernel_rfl, by kernel_rfl⟩
theorem calls {w0 : Base} {R : RT} {σ : Store} {s : List UInt8} {prefix_ : List UInt8} (h : b0 (X w0 (List.length σ)) w0 (List.length σ) R σ s prefix_) : SCalls (cx w0) stringslite_HasPrefix.id [(.pv (.str s)), (.pv (.str prefix_))] σ R :=
  xr_enter (cxOK w0) (x := fe) (S := cuts) (stringslite_HasPrefix.ok w0) (by kernel_rfl) h
end stringslite_HasPrefix
namespace unified_number
def lvs : List (List Nat) := [[0], [0], [0], [0], [0, 5, 6], [0, 5, 6], [0, 5, 6], [0, 5, 6], [0, 5, 6], [0, 5, 6], [0, 5, 6, 22], [0, 5, 6], [0, 5, 6], [0, 5, 6], [0, 5, 6], [0, 5, 6], [0, 5, 6], [0, 5, 6], [0, 5, 6], [2, 3, 4]]
def lv : Nat → List Nat := lvOf lvs
noncomputable def code : Code := bodyOf Tryz.f106
noncomputable def fe : FE := ⟨Tryz.f106, code, lv⟩
def cuts : List Nat := [7, 10, 17, 19]
abbrev X (w0 : Base) (n : Nat) : XT := xr (cx w0) 44 lv n
def q5 (X : XT) (w0 : Base) (n : Nat) (R : RT) : QT := thenQ (fun env σ => X (cAt code 17) 17 (prune (lv 17) env) σ (finQ (cx w0) Tryz.f106 n R)) (finQ (cx w0) Tryz.f106 n R)
def q6 (X : XT) (w0 : Base) (n : Nat) (R : RT) : QT := blockQ 0 (q5 X w0 n R)
def q7 (X : XT) (w0 : Base) (n : Nat) (R : RT) : QT := thenQ (fun env σ => X (cAt code 6) 6 (prune (lv 6) env) σ (q6 X w0 n R)) (q6 X w0 n R)
def q8 (X : XT) (w0 : Base) (n : Nat) (R : RT) : QT := thenQ (fun env σ => pcodeX (cx w0) 44 lv n cuts X (cAt code 13) 13 (prune (lv 13) env) σ (q7 X w0 n R)) (q7 X w0 n R)
def n6 (X : XT) (w0 : Base) (n : Nat) (R : RT) (σ : Store) (s : List UInt8) (n_ : Int) (i : Int) : Prop :=
  X (cAt code 6) 6 [(0, (.pv (.str s))), (5, (.pv (.int .i64 n_))), (6, (.pv (.int .i64 i)))] σ (q6 X w0 n R)
def b7 (X : XT) (w0 : Base) (n : Nat) (R : RT) (σ : Store) (s : List UInt8) (n_ : Int) (i : Int) : Prop :=
  pcodeX (cx w0) 44 lv n cuts X (cAt code 7) 7 [(0, (.pv (.str s))), (5, (.pv (.int .i64 n_))), (6, (.pv (.int .i64 i)))] σ (q7 X w0 n R)
def n10 (X : XT) (w0 : Base) (n : Nat) (R : RT) (σ : Store) (s : List UInt8) (n_ : Int) (i : Int) (t22 : Bool) : Prop :=
  X (cAt code 10) 10 [(0, (.pv (.str s))), (5, (.pv (.int .i64 n_))), (6, (.pv (.int .i64 i))), (22, (.pv (.bool t22)))] σ (q8 X w0 n R)
def b10 (X : XT) (w0 : Base) (n : Nat) (R : RT) (σ : Store) (s : List UInt8) (n_ : Int) (i : Int) (t22 : Bool) : Prop :=
  pcodeX (cx w0) 44 lv n cuts X (cAt code 10) 10 [(0, (.pv (.str s))), (5, (.pv (.int .i64 n_))), (6, (.pv (.int .i64 i))), (22, (.pv (.bool t22)))] σ (q8 X w0 n R)
def n17 (X : XT) (w0 : Base) (n : Nat) (R : RT) (σ : Store) (s : List UInt8) (n_ : Int) (i : Int) : Prop :=
  X (cAt code 17) 17 [(0, (.pv (.str s))), (5, (.pv (.int .i64 n_))), (6, (.pv (.int .i64 i)))] σ (finQ (cx w0) Tryz.f106 n R)
def b17 (X : XT) (w0 : Base) (n : Nat) (R : RT) (σ : Store) (s : List UInt8) (n_ : Int) (i : Int) : Prop :=
  pcodeX (cx w0) 44 lv n cuts X (cAt code 17) 17 [(0, (.pv (.str s))), (5, (.pv (.int .i64 n_))), (6, (.pv (.int .i64 i)))] σ (finQ (cx w0) Tryz.f106 n R)
def n19 (X : XT) (w0 : Base) (n : Nat) (R : RT) (σ : Store) (t2 : Int) (t3 : List UInt8) (t4 : Bool) : Prop :=
  X (cAt code 19) 19 [(2, (.pv (.int .i64 t2))), (3, (.pv (.str t3))), (4, (.pv (.bool t4)))] σ (finQ (cx w0) Tryz.f106 n R)
def b19 (X : XT) (w0 : Base) (n : Nat) (R : RT) (σ : Store) (t2 : Int) (t3 : List UInt8) (t4 : Bool) : Prop :=
  pcodeX (cx w0) 44 lv n cuts X (cAt code 19) 19 [(2, (.pv (.int .i64 t2))), (3, (.pv (.str t3))), (4, (.pv (.bool t4)))] σ (finQ (cx w0) Tryz.f106 n R)
def b0 (X : XT) (w0 : Base) (n : Nat) (R : RT) (σ : Store) (s : List UInt8) : Prop :=
  pcodeX (cx w0) 44 lv n cuts X code 0 (argsE 0 [(.pv (.str s))]) σ (finQ (cx w0) Tryz.f106 n R)
theorem n6_in {w0 : Base} {n : Nat} {R : RT} {σ : Store} {s : List UInt8} {n_ : Int} {i : Int} (h : b7 (X w0 n) w0 n R σ s n_ i) : n6 (X w0 n) w0 n R σ s n_ i := xr_round (cxOK w0) (S := cuts) (by kernel_rfl : cAt code 6 = .loop (cAt code 7)) h
theorem b7_eq (X : XT) (w0 : Base) (n : Nat) (R : RT) (σ : Store) (s : List UInt8) (n_ : Int) (i : Int) : b7 X w0 n R σ s n_ i = (
  condB (decide ((i : Int) < (List.length (s : List UInt8) : Int))) (opt (aIndex tabS ti9.td (.pv (.str s)) i) fun t14 => isI .u8 t14 fun t14_1 => condB (decide ((t14_1 : Int) ≥ 48)) (opt (aIndex tabS ti9.td (.pv (.str s)) i) fun t20 => isI .u8 t20 fun t20_1 => n10 X w0 n R σ s n_ i (decide ((t20_1 : Int) ≤ 57))) (n10 X w0 n R σ s n_ i false)) (n10 X w0 n R σ s n_ i false)) := by kernel_rfl
theorem b10_eq (X : XT) (w0 : Base) (n : Nat) (R : RT) (σ : Store) (s : List UInt8) (n_ : Int) (i : Int) (t22 : Bool) : b10 X w0 n R σ s n_ i t22 = (
  condB t22 (opt (aIndex tabS ti9.td (.pv (.str s)) i) fun t27 => isI .u8 t27 fun t27_1 => n6 X w0 n R σ s (if (2147483648 : Int) < (IntKind.wrap .i64 ((IntKind.wrap .i64 (n_ * 10)) + (IntKind.wrap .i64 (IntKind.wrap .u8 (t27_1 - 48))))) then 2147483648 else (IntKind.wrap .i64 ((IntKind.wrap .i64 (n_ * 10)) + (IntKind.wrap .i64 (IntKind.wrap .u8 (t27_1 - 48)))))) (IntKind.wrap .i64 (i + 1))) (n17 X w0 n R σ s n_ i)) := by kernel_rfl
theorem n10_in {w0 : Base} {n : Nat} {R : RT} {σ : Store} {s : List UInt8} {n_ : Int} {i : Int} {t22 : Bool} (h : b10 (X w0 n) w0 n R σ s n_ i t22) : n10 (X w0 n) w0 n R σ s n_ i t22 := xr_in (S := cuts) (by kernel_rfl) h
theorem b17_eq (X : XT) (w0 : Base) (n : Nat) (R : RT) (σ : Store) (s : List UInt8) (n_ : Int) (i : Int) : b17 X w0 n R σ s n_ i = (
  opt (aSlice σ tabS ti9.td (.pv (.str s)) (some (.pv (.int .i64 i))) none) fun t37 => isS t37 fun t37_1 => condB (decide ((i : Int) > 0)) (((opt (aSlice σ tabS ti9.td (.pv (.str s)) (some (.pv (.int .i64 i))) none) fun t37_2 => ((t37_2 : AV) = (.pv (.str t37_1)))) ∧ (n19 X w0 n R σ n_ t37_1 (decide ((n_ : Int) ≤ 2147483647))))) (((opt (aSlice σ tabS ti9.td (.pv (.str s)) (some (.pv (.int .i64 i))) none) fun t37_2 => ((t37_2 : AV) = (.pv (.str t37_1)))) ∧ (n19 X w0 n R σ n_ t37_1 false)))) := by kernel_rfl
theorem n17_in {w0 : Base} {n : Nat} {R : RT} {σ : Store} {s : List UInt8} {n_ : Int} {i : Int} (h : b17 (X w0 n) w0 n R σ s n_ i) : n17 (X w0 n) w0 n R σ s n_ i := xr_in (S := cuts) (by kernel_rfl) h
theorem b19_eq (X : XT) (w0 : Base) (n : Nat) (R : RT) (σ : Store) (t2 : Int) (t3 : List UInt8) (t4 : Bool) : b19 X w0 n R σ t2 t3 t4 = (
  FinK (cx w0) n (.tup [(.pv (.int .i64 t2)), (.pv (.str t3)), (.pv (.bool t4))]) σ R) := by kernel_rfl
theorem n19_in {w0 : Base} {n : Nat} {R : RT} {σ : Store} {t2 : Int} {t3 : List UInt8} {t4 : Bool} (h : b19 (X w0 n) w0 n R σ t2 t3 t4) : n19 (X w0 n) w0 n R σ t2 t3 t4 := xr_in (S := cuts) (by kernel_rfl) h
theorem b0_eq (X : XT) (w0 : Base) (n : Nat) (R : RT) (σ : Store) (s : List UInt8) : b0 X w0 n R σ s = (
  n6 X w0 n R σ s 0 0) := by kernel_rfl
theorem ok (w0 : Base) : FOK (cx w0) unified_number.id fe := ⟨Tryz.func106, by kernel_rfl, by kernel_rfl⟩
theorem calls {w0 : Base} {R : RT} {σ : Store} {s : List UInt8} (h : b0 (X w0 (List.length σ)) w0 (List.length σ) R σ s) : SCalls (cx w0) unified_number.id [(.pv (.str s))] σ R :=
  xr_enter (cxOK w0) (x := fe) (S := cuts) (unified_number.ok w0) (by kernel_rfl) h
end unified_number
namespace unified_ranged
def lvs : List (List Nat) := [[0], [0], [0], [0], [0, 6, 7], [0, 6, 7], [0, 6, 7], [0, 6, 7, 21], [0, 6, 7], [0, 6, 7], [2, 3, 4, 5], [0, 6], [0, 6], [0, 6], [0, 6, 7, 8], [0, 6, 7, 8], [2, 3, 4, 5]]
def lv : Nat → List Nat := lvOf lvs
noncomputable def code : Code := bodyOf Tryz.f95
noncomputable def fe : FE := ⟨Tryz.f95, code, lv⟩
def cuts : List Nat := [7]
abbrev X (w0 : Base) (n : Nat) : XT := xr (cx w0) 36 lv n
def q5 (X : XT) (w0 : Base) (n : Nat) (R : RT) : QT := thenQ (fun env σ => pcodeX (cx w0) 36 lv n cuts X (cAt code 12) 12 (prune (lv 12) env) σ (finQ (cx w0) Tryz.f95 n R)) (finQ (cx w0) Tryz.f95 n R)
def n7 (X : XT) (w0 : Base) (n : Nat) (R : RT) (σ : Store) (s : List UInt8) (a : Int) (ok : Bool) (t21 : Bool) : Prop :=
  X (cAt code 7) 7 [(0, (.pv (.str s))), (6, (.pv (.int .i64 a))), (7, (.pv (.bool ok))), (21, (.pv (.bool t21)))] σ (q5 X w0 n R)
def b7 (X : XT) (w0 : Base) (n : Nat) (R : RT) (σ : Store) (s : List UInt8) (a : Int) (ok : Bool) (t21 : Bool) : Prop :=
  pcodeX (cx w0) 36 lv n cuts X (cAt code 7) 7 [(0, (.pv (.str s))), (6, (.pv (.int .i64 a))), (7, (.pv (.bool ok))), (21, (.pv (.bool t21)))] σ (q5 X w0 n R)
def b0 (X : XT) (w0 : Base) (n : Nat) (R : RT) (σ : Store) (s : List UInt8) : Prop :=
  pcodeX (cx w0) 36 lv n cuts X code 0 (argsE 0 [(.pv (.str s))]) σ (finQ (cx w0) Tryz.f95 n R)
theorem b7_eq (X : XT) (w0 : Base) (n : Nat) (R : RT) (σ : Store) (s : List UInt8) (a : Int) (ok : Bool) (t21 : Bool) : b7 X w0 n R σ s a ok t21 = (
  condB t21 (FinK (cx w0) n (.tup [(.pv (.int .i64 a)), (.pv (.int .i64 1)), (.pv (.str s)), (.pv (.bool ok))]) σ R) (opt (aSlice σ tabS ti9.td (.pv (.str s)) (some (.pv (.int .i64 1))) none) fun t27 => isS t27 fun t27_1 => SCalls (cx w0) unified_number.id [(.pv (.str t27_1))] σ fun r σ' => isTup r fun vs => opt ((vs)[0]?) fun t29 => isI .i64 t29 fun t29_1 => isTup r fun vs_1 => opt ((vs_1)[1]?) fun t30 => isS t30 fun t30_1 => isTup r fun vs_2 => opt ((vs_2)[2]?) fun t31 => isB t31 fun t31_1 => FinK (cx w0) n (.tup [(.pv (.int .i64 a)), (.pv (.int .i64 t29_1)), (.pv (.str t30_1)), (.pv (.bool t31_1))]) σ' R)) := by kernel_rfl
theorem n7_in {w0 : Base} {n : Nat} {R : RT} {σ : Store} {s : List UInt8} {a : Int} {ok : Bool} {t21 : Bool} (h : b7 (X w0 n) w0 n R σ s a ok t21) : n7 (X w0 n) w0 n R σ s a ok t21 := xr_in (S := cuts) (by kernel_rfl) h
theorem b0_eq (X : XT) (w0 : Base) (n : Nat) (R : RT) (σ : Store) (s : List UInt8) : b0 X w0 n R σ s = (
  SCalls (cx w0) unified_number.id [(.pv (.str s))] σ fun r σ' => isTup r fun vs => opt ((vs)[0]?) fun t12 => isI .i64 t12 fun t12_1 => isTup r fun vs_1 => opt ((vs_1)[1]?) fun t13 => isS t13 fun t13_1 => isTup r fun vs_2 => opt ((vs_2)[2]?) fun t14 => isB t14 fun t14_1 => condB (!t14_1) (n7 X w0 n R σ' t13_1 t12_1 t14_1 true) (SCalls (cx w0) strings_HasPrefix.id [(.pv (.str t13_1)), (.pv (.str [44]))] σ' fun r_1 σ'_1 => isB r_1 fun t19 => n7 X w0 n R σ'_1 t13_1 t12_1 t14_1 (!t19))) := by kernel_rfl
theorem ok (w0 : Base) : FOK (cx w0) unified_ranged.id fe := ⟨Tryz.func95, by kernel_rfl, by kernel_rfl⟩
theorem calls {w0 : Base} {R : RT} {σ : Store} {s : List UInt8} (h : b0 (X w0 (List.length σ)) w0 (List.length σ) R σ s) : SCalls (cx w0) unified_ranged.id [(.pv (.str s))] σ R :=
  xr_enter (cxOK w0) (x := fe) (S := cuts) (unified_ranged.ok w0) (by kernel_rfl) h
end unified_ranged
namespace unified_first
def lvs : List (List Nat) := [[0], [0], [0, 2], [0, 2], [0, 2, 4], [0, 2, 4], [0, 2, 4, 5], [0, 2, 4, 5], [0, 2, 4, 5], [0, 2, 4, 5, 11], [0, 2, 4], [0, 2, 4, 5], [0, 2, 4, 5], [0, 2, 4, 5], [0, 2, 4, 5], [0, 2, 4, 5, 21], [0, 2, 4], [0, 2, 4, 5], [0, 2, 4, 5], [0, 2, 4, 5], [0, 2, 4, 5], [0, 2, 4, 5, 27], [0, 2, 4], [0, 2, 4, 5], [0, 2, 4, 5], [0, 2, 4, 5], [0, 2, 4, 5], [0, 2, 4, 5, 37], [0, 2, 4], [0, 2, 4, 5], [0, 2, 4, 5], [0, 2, 4, 5], [0, 2, 4, 5], [0, 2, 4, 53], [2, 4], [2, 4], [2, 3], [0, 2, 4], [0, 2, 4], [0, 2, 4], [2, 4], [2, 4], [2, 3]]
def lv : Nat → List Nat := lvOf lvs
noncomputable def code : Code := bodyOf Tryz.f81
noncomputable def fe : FE := ⟨Tryz.f81, code, lv⟩
def cuts : List Nat := [12, 18, 24, 30, 33]
abbrev X (w0 : Base) (n : Nat) : XT := xr (cx w0) 59 lv n
def q31 (X : XT) (w0 : Base) (n : Nat) (R : RT) : QT := thenQ (fun env σ => pcodeX (cx w0) 59 lv n cuts X (cAt code 38) 38 (prune (lv 38) env) σ (finQ (cx w0) Tryz.f81 n R)) (finQ (cx w0) Tryz.f81 n R)
def n12 (X : XT) (w0 : Base) (n : Nat) (R : RT) (σ : Store) (s : List UInt8) (t2 : AV) (h_ : AV) (ok : Bool) : Prop :=
  X (cAt code 12) 12 [(0, (.pv (.str s))), (2, t2), (4, h_), (5, (.pv (.bool ok)))] σ (finQ (cx w0) Tryz.f81 n R)
def b12 (X : XT) (w0 : Base) (n : Nat) (R : RT) (σ : Store) (s : List UInt8) (t2 : AV) (h_ : AV) (ok : Bool) : Prop :=
  pcodeX (cx w0) 59 lv n cuts X (cAt code 12) 12 [(0, (.pv (.str s))), (2, t2), (4, h_), (5, (.pv (.bool ok)))] σ (finQ (cx w0) Tryz.f81 n R)
def n18 (X : XT) (w0 : Base) (n : Nat) (R : RT) (σ : Store) (s : List UInt8) (t2 : AV) (h_ : AV) (ok : Bool) : Prop :=
  X (cAt code 18) 18 [(0, (.pv (.str s))), (2, t2), (4, h_), (5, (.pv (.bool ok)))] σ (finQ (cx w0) Tryz.f81 n R)
def b18 (X : XT) (w0 : Base) (n : Nat) (R : RT) (σ : Store) (s : List UInt8) (t2 : AV) (h_ : AV) (ok : Bool) : Prop :=
  pcodeX (cx w0) 59 lv n cuts X (cAt code 18) 18 [(0, (.pv (.str s))), (2, t2), (4, h_), (5, (.pv (.bool ok)))] σ (finQ (cx w0) Tryz.f81 n R)
def n24 (X : XT) (w0 : Base) (n : Nat) (R : RT) (σ : Store) (s : List UInt8) (t2 : AV) (h_ : AV) (ok : Bool) : Prop :=
  X (cAt code 24) 24 [(0, (.pv (.str s))), (2, t2), (4, h_), (5, (.pv (.bool ok)))] σ (finQ (cx w0) Tryz.f81 n R)
def b24 (X : XT) (w0 : Base) (n : Nat) (R : RT) (σ : Store) (s : List UInt8) (t2 : AV) (h_ : AV) (ok : Bool) : Prop :=
  pcodeX (cx w0) 59 lv n cuts X (cAt code 24) 24 [(0, (.pv (.str s))), (2, t2), (4, h_), (5, (.pv (.bool ok)))] σ (finQ (cx w0) Tryz.f81 n R)
def n30 (X : XT) (w0 : Base) (n : Nat) (R : RT) (σ : Store) (s : List UInt8) (t2 : AV) (h_ : AV) (ok : Bool) : Prop :=
  X (cAt code 30) 30 [(0, (.pv (.str s))), (2, t2), (4, h_), (5, (.pv (.bool ok)))] σ (finQ (cx w0) Tryz.f81 n R)
def b30 (X : XT) (w0 : Base) (n : Nat) (R : RT) (σ : Store) (s : List UInt8) (t2 : AV) (h_ : AV) (ok : Bool) : Prop :=
  pcodeX (cx w0) 59 lv n cuts X (cAt code 30) 30 [(0, (.pv (.str s))), (2, t2), (4, h_), (5, (.pv (.bool ok)))] σ (finQ (cx w0) Tryz.f81 n R)
def n33 (X : XT) (w0 : Base) (n : Nat) (R : RT) (σ : Store) (s : List UInt8) (t2 : AV) (h_ : AV) (t53 : Bool) : Prop :=
  X (cAt code 33) 33 [(0, (.pv (.str s))), (2, t2), (4, h_), (53, (.pv (.bool t53)))] σ (q31 X w0 n R)
def b33 (X : XT) (w0 : Base) (n : Nat) (R : RT) (σ : Store) (s : List UInt8) (t2 : AV) (h_ : AV) (t53 : Bool) : Prop :=
  pcodeX (cx w0) 59 lv n cuts X (cAt code 33) 33 [(0, (.pv (.str s))), (2, t2), (4, h_), (53, (.pv (.bool t53)))] σ (q31 X w0 n R)
def b0 (X : XT) (w0 : Base) (n : Nat) (R : RT) (σ : Store) (s : List UInt8) : Prop :=
  pcodeX (cx w0) 59 lv n cuts X code 0 (argsE 0 [(.pv (.str s))]) σ (finQ (cx w0) Tryz.f81 n R)
theorem b12_eq (X : XT) (w0 : Base) (n : Nat) (R : RT) (σ : Store) (s : List UInt8) (t2 : AV) (h_ : AV) (ok : Bool) : b12 X w0 n R σ s t2 h_ ok = (
  condB ok (SCalls (cx w0) strings_CutPrefix.id [(.pv (.str s)), (.pv (.str [32, 43]))] σ fun r σ' => isTup r fun vs => opt ((vs)[0]?) fun t25 => isS t25 fun t25_1 => isTup r fun vs_1 => opt ((vs_1)[1]?) fun t26 => isB t26 fun t26_1 => n18 X w0 n R σ' t25_1 t2 h_ t26_1) (n18 X w0 n R σ s t2 h_ ok)) := by kernel_rfl
theorem n12_in {w0 : Base} {n : Nat} {R : RT} {σ : Store} {s : List UInt8} {t2 : AV} {h_ : AV} {ok : Bool} (h : b12 (X w0 n) w0 n R σ s t2 h_ ok) : n12 (X w0 n) w0 n R σ s t2 h_ ok := xr_in (S := cuts) (by kernel_rfl) h
theorem b18_eq (X : XT) (w0 : Base) (n : Nat) (R : RT) (σ : Store) (s : List UInt8) (t2 : AV) (h_ : AV) (ok : Bool) : b18 X w0 n R σ s t2 h_ ok = (
  condB ok (SCalls (cx w0) unified_ranged.id [(.pv (.str s))] σ fun r σ' => isTup r fun vs => opt ((vs)[0]?) fun t31 => isI .i64 t31 fun t31_1 => isTup r fun vs_1 => opt ((vs_1)[1]?) fun t32 => isI .i64 t32 fun t32_1 => isTup r fun vs_2 => opt ((vs_2)[2]?) fun t33 => isS t33 fun t33_1 => isTup r fun vs_3 => opt ((vs_3)[3]?) fun t34 => isB t34 fun t34_1 => opt (aFieldAddr tabS ti37.td h_ 2) fun t35 => opt (aStore σ' ti3 t35 (.pv (.int .i64 t31_1))) fun σ'_1 => opt (aFieldAddr tabS ti37.td h_ 3) fun t36 => opt (aStore σ'_1 ti3 t36 (.pv (.int .i64 t32_1))) fun σ'_2 => n24 X w0 n R σ'_2 t33_1 t2 h_ t34_1) (n24 X w0 n R σ s t2 h_ ok)) := by kernel_rfl
theorem n18_in {w0 : Base} {n : Nat} {R : RT} {σ : Store} {s : List UInt8} {t2 : AV} {h_ : AV} {ok : Bool} (h : b18 (X w0 n) w0 n R σ s t2 h_ ok) : n18 (X w0 n) w0 n R σ s t2 h_ ok := xr_in (S := cuts) (by kernel_rfl) h
theorem b24_eq (X : XT) (w0 : Base) (n : Nat) (R : RT) (σ : Store) (s : List UInt8) (t2 : AV) (h_ : AV) (ok : Bool) : b24 X w0 n R σ s t2 h_ ok = (
  condB ok (SCalls (cx w0) strings_CutPrefix.id [(.pv (.str s)), (.pv (.str [32, 64, 64]))] σ fun r σ' => isTup r fun vs => opt ((vs)[0]?) fun t41 => isS t41 fun t41_1 => isTup r fun vs_1 => opt ((vs_1)[1]?) fun t42 => isB t42 fun t42_1 => n30 X w0 n R σ' t41_1 t2 h_ t42_1) (n30 X w0 n R σ s t2 h_ ok)) := by kernel_rfl
theorem n24_in {w0 : Base} {n : Nat} {R : RT} {σ : Store} {s : List UInt8} {t2 : AV} {h_ : AV} {ok : Bool} (h : b24 (X w0 n) w0 n R σ s t2 h_ ok) : n24 (X w0 n) w0 n R σ s t2 h_ ok := xr_in (S := cuts) (by kernel_rfl) h
theorem b30_eq (X : XT) (w0 : Base) (n : Nat) (R : RT) (σ : Store) (s : List UInt8) (t2 : AV) (h_ : AV) (ok : Bool) : b30 X w0 n R σ s t2 h_ ok = (
  condB (!ok) (n33 X w0 n R σ s t2 h_ true) (condB (!((s : List UInt8) == [])) (opt (aIndex tabS ti9.td (.pv (.str s)) 0) fun t50 => isI .u8 t50 fun t50_1 => n33 X w0 n R σ s t2 h_ ((t50_1 : Int) != 32)) (n33 X w0 n R σ s t2 h_ false))) := by kernel_rfl
theorem n30_in {w0 : Base} {n : Nat} {R : RT} {σ : Store} {s : List UInt8} {t2 : AV} {h_ : AV} {ok : Bool} (h : b30 (X w0 n) w0 n R σ s t2 h_ ok) : n30 (X w0 n) w0 n R σ s t2 h_ ok := xr_in (S := cuts) (by kernel_rfl) h
theorem b33_eq (X : XT) (w0 : Base) (n : Nat) (R : RT) (σ : Store) (s : List UInt8) (t2 : AV) (h_ : AV) (t53 : Bool) : b33 X w0 n R σ s t2 h_ t53 = (
  condB t53 (opt (aLoad σ ti37 h_) fun t54 => opt (aStore σ ti37 t2 t54) fun σ' => opt (aLoad σ' ti37 t2) fun v => FinK (cx w0) n (.tup [v, (.pv (.bool false))]) σ' R) (SCalls (cx w0) strings_TrimPrefix.id [(.pv (.str s)), (.pv (.str [32]))] σ fun r σ' => isS r fun t56 => opt (aFieldAddr tabS ti37.td h_ 4) fun t57 => opt (aStore σ' ti9 t57 (.pv (.str t56))) fun σ'_1 => opt (aLoad σ'_1 ti37 h_) fun t58 => opt (aStore σ'_1 ti37 t2 t58) fun σ'_2 => opt (aLoad σ'_2 ti37 t2) fun v => FinK (cx w0) n (.tup [v, (.pv (.bool true))]) σ'_2 R)) := by kernel_rfl
theorem n33_in {w0 : Base} {n : Nat} {R : RT} {σ : Store} {s : List UInt8} {t2 : AV} {h_ : AV} {t53 : Bool} (h : b33 (X w0 n) w0 n R σ s t2 h_ t53) : n33 (X w0 n) w0 n R σ s t2 h_ t53 := xr_in (S := cuts) (by kernel_rfl) h
theorem b0_eq (X : XT) (w0 : Base) (n : Nat) (R : RT) (σ : Store) (s : List UInt8) : b0 X w0 n R σ s = (
  SCalls (cx w0) strings_CutPrefix.id [(.pv (.str s)), (.pv (.str [64, 64, 32, 45]))] ((σ ++ [.cells 37 (AV.ofValue ti37.zero).cells]) ++ [.cells 37 (AV.ofValue ti37.zero).cells]) fun r σ' => isTup r fun vs => opt ((vs)[0]?) fun t9 => isS t9 fun t9_1 => isTup r fun vs_1 => opt ((vs_1)[1]?) fun t10 => isB t10 fun t10_1 => condB t10_1 (SCalls (cx w0) unified_ranged.id [(.pv (.str t9_1))] σ' fun r_1 σ'_1 => isTup r_1 fun vs_2 => opt ((vs_2)[0]?) fun t15 => isI .i64 t15 fun t15_1 => isTup r_1 fun vs_3 => opt ((vs_3)[1]?) fun t16 => isI .i64 t16 fun t16_1 => isTup r_1 fun vs_4 => opt ((vs_4)[2]?) fun t17 => isS t17 fun t17_1 => isTup r_1 fun vs_5 => opt ((vs_5)[3]?) fun t18 => isB t18 fun t18_1 => opt (aFieldAddr tabS ti37.td (.ptr (List.length (σ ++ [.cells 37 (AV.ofValue ti37.zero).cells])) 0) 0) fun t19 => opt (aStore σ'_1 ti3 t19 (.pv (.int .i64 t15_1))) fun σ'_2 => opt (aFieldAddr tabS ti37.td (.ptr (List.length (σ ++ [.cells 37 (AV.ofValue ti37.zero).cells])) 0) 1) fun t20 => opt (aStore σ'_2 ti3 t20 (.pv (.int .i64 t16_1))) fun σ'_3 => n12 X w0 n R σ'_3 t17_1 (.ptr (List.length σ) 0) (.ptr (List.length (σ ++ [.cells 37 (AV.ofValue ti37.zero).cells])) 0) t18_1) (n12 X w0 n R σ' t9_1 (.ptr (List.length σ) 0) (.ptr (List.length (σ ++ [.cells 37 (AV.ofValue ti37.zero).cells])) 0) t10_1)) := by kernel_rfl
theorem ok (w0 : Base) : FOK (cx w0) unified_first.id fe := ⟨Tryz.func81, by kernel_rfl, by kernel_rfl⟩
theorem calls {w0 : Base} {R : RT} {σ : Store} {s : List UInt8} (h : b0 (X w0 (List.length σ)) w0 (List.length σ) R σ s) : SCalls (cx w0) unified_first.id [(.pv (.str s))] σ R :=
  xr_enter (cxOK w0) (x := fe) (S := cuts) (unified_first.ok w0) (by kernel_rfl) h
end unified_first
end Go.Sv
