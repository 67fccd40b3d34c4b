/- What the code of Go functions comes to over abstract stores, piece by piece; each equation by the kernel. Printed by a program of this session. -/
import Derived.Test.YtgdnoobpnhmpjaaGreatDoorSvT
import Derived.KernelRfl
set_option linter.unusedVariables false
set_option maxRecDepth 100000
namespace Go.Sv
open Go Go.Proofs
namespace selvagelaw28_StreamRecounts
def lvs : List (List Nat) := [[0], [0], [0], [0], [0, 3, 4], [0, 3, 4], [3, 4, 5, 6], [3, 4, 5, 6], [2]]
def lv : Nat → List Nat := lvOf lvs
noncomputable def code : Code := bodyOf Tryz.f6
noncomputable def fe : FE := ⟨Tryz.f6, code, lv⟩
def cuts : List Nat := [8]
abbrev X (w0 : Base) (n : Nat) : XT := xr (cx w0) 29 lv n
theorem ok (w0 : Base) : FOK (cx w0) selvagelaw28_StreamRecounts.id fe := ⟨Tryz.func6, by kernel_rfl, by kernel_rfl⟩
section
variable (Z : XT) (w0 : Base) (n : Nat) (R : RT) (σ : Store) (t2 : Bool) (text : List UInt8)
def n8 : Prop :=
  Z (cAt code 8) 8 [(2, (.pv (.bool t2)))] σ (finQ (cx w0) Tryz.f6 n R)
def b8 : Prop :=
  pcodeX (cx w0) 29 lv n cuts Z (cAt code 8) 8 [(2, (.pv (.bool t2)))] σ (finQ (cx w0) Tryz.f6 n R)
def b0 : Prop :=
  pcodeX (cx w0) 29 lv n cuts Z code 0 (argsE 0 [(.pv (.str text))]) σ (finQ (cx w0) Tryz.f6 n R)
end
variable {Z : XT} {w0 : Base} {n : Nat} {R : RT} {σ τ : Store} {t2 : Bool} {text : List UInt8}
theorem b8_eq : b8 Z w0 n R σ t2 = (
  FinK (cx w0) n (.pv (.bool t2)) σ R) := by kernel_rfl
theorem n8_in (h : b8 (X w0 n) w0 n R σ t2) : n8 (X w0 n) w0 n R σ t2 := xr_in (S := cuts) (by kernel_rfl) @h
theorem b0_eq : b0 Z w0 n R σ text = (
  SCalls (cx w0) stream_Recount.id [(.pv (.str text))] σ fun r σ' => isTup r fun vs => opt ((vs)[0]?) fun t10 => isS t10 fun t10_1 => isTup r fun vs_1 => opt ((vs_1)[1]?) fun t11 => SCalls (cx w0) selvageref28_Recount.id [(.pv (.str text))] σ' fun r_1 σ'_1 => isTup r_1 fun vs_2 => opt ((vs_2)[0]?) fun t15 => isS t15 fun t15_1 => isTup r_1 fun vs_3 => opt ((vs_3)[1]?) fun t16 => isI .i64 t16 fun t16_1 => condB ((t10_1 : List UInt8) == t15_1) (SCalls (cx w0) selvagelaw28_num.id [t11] σ'_1 fun r_2 σ'_2 => isI .i64 r_2 fun t22 => condB ((t22 : Int) == t16_1) (SCalls (cx w0) selvagelaw28_works.id [] σ'_2 fun r_3 σ'_3 => isB r_3 fun t27 => n8 Z w0 n R σ'_3 t27) (n8 Z w0 n R σ'_2 false)) (n8 Z w0 n R σ'_1 false)) := by kernel_rfl
theorem calls (h : b0 (X w0 (List.length σ)) w0 (List.length σ) R σ text) : SCalls (cx w0) selvagelaw28_StreamRecounts.id [(.pv (.str text))] σ R :=
  xr_enter (cxOK w0) (x := fe) (S := cuts) (selvagelaw28_StreamRecounts.ok w0) (by kernel_rfl) @h
attribute [irreducible] n8 b8 b0
end selvagelaw28_StreamRecounts
namespace strings_TrimLeft
def lvs : List (List Nat) := [[0, 1], [0, 1], [0, 1], [0, 1], [0, 1], [0, 1, 12], [0], [0], [4], [0, 1], [0, 1], [0, 1], [0, 1], [0, 1, 21], [0, 1], [0, 1], [4], [0, 1], [0, 1], [0, 1], [0, 1], [0, 1, 5, 6], [0, 1, 5, 6], [0, 1, 5, 31], [0, 5], [0, 5], [4], [0, 1], [0, 1], [0, 1], [4]]
def lv : Nat → List Nat := lvOf lvs
noncomputable def code : Code := bodyOf Tryz.f70
noncomputable def fe : FE := ⟨Tryz.f70, code, lv⟩
def cuts : List Nat := [5, 13]
abbrev X (w0 : Base) (n : Nat) : XT := xr (cx w0) 37 lv n
theorem ok (w0 : Base) : FOK (cx w0) strings_TrimLeft.id fe := ⟨Tryz.func70, by kernel_rfl, by kernel_rfl⟩
section
variable (Z : XT) (w0 : Base) (n : Nat) (R : RT) (σ : Store) (s cutset : List UInt8) (t12 t21 : Bool)
def q3 : QT := thenQ (fun env σ => pcodeX (cx w0) 37 lv n cuts Z (cAt code 10) 10 (prune (lv 10) env) σ (finQ (cx w0) Tryz.f70 n R)) (finQ (cx w0) Tryz.f70 n R)
def q11 : QT := thenQ (fun env σ => pcodeX (cx w0) 37 lv n cuts Z (cAt code 18) 18 (prune (lv 18) env) σ (finQ (cx w0) Tryz.f70 n R)) (finQ (cx w0) Tryz.f70 n R)
def n5 : Prop :=
  Z (cAt code 5) 5 [(0, (.pv (.str s))), (1, (.pv (.str cutset))), (12, (.pv (.bool t12)))] σ (q3 Z w0 n R)
def b5 : Prop :=
  pcodeX (cx w0) 37 lv n cuts Z (cAt code 5) 5 [(0, (.pv (.str s))), (1, (.pv (.str cutset))), (12, (.pv (.bool t12)))] σ (q3 Z w0 n R)
def n13 : Prop :=
  Z (cAt code 13) 13 [(0, (.pv (.str s))), (1, (.pv (.str cutset))), (21, (.pv (.bool t21)))] σ (q11 Z w0 n R)
def b13 : Prop :=
  pcodeX (cx w0) 37 lv n cuts Z (cAt code 13) 13 [(0, (.pv (.str s))), (1, (.pv (.str cutset))), (21, (.pv (.bool t21)))] σ (q11 Z w0 n R)
def b0 : Prop :=
  pcodeX (cx w0) 37 lv n cuts Z code 0 (argsE 0 [(.pv (.str s)), (.pv (.str cutset))]) σ (finQ (cx w0) Tryz.f70 n R)
end
variable {Z : XT} {w0 : Base} {n : Nat} {R : RT} {σ τ : Store} {s cutset : List UInt8} {t12 t21 : Bool}
theorem b5_eq : b5 Z w0 n R σ s cutset t12 = (
  condB t12 (FinK (cx w0) n (.pv (.str s)) σ R) (condB (((List.length (cutset : List UInt8) : Int) : Int) == 1) (opt (aIndex tabS ti9.td (.pv (.str cutset)) 0) fun t19 => isI .u8 t19 fun t19_1 => n13 Z w0 n R σ s cutset (decide ((t19_1 : Int) < 128))) (n13 Z w0 n R σ s cutset false))) := by kernel_rfl
theorem n5_in (h : b5 (X w0 n) w0 n R σ s cutset t12) : n5 (X w0 n) w0 n R σ s cutset t12 := xr_in (S := cuts) (by kernel_rfl) @h
theorem b13_eq : b13 Z w0 n R σ s cutset t21 = (
  condB t21 (opt (aIndex tabS ti9.td (.pv (.str cutset)) 0) fun t24 => isI .u8 t24 fun t24_1 => SCalls (cx w0) strings_trimLeftByte.id [(.pv (.str s)), (.pv (.int .u8 t24_1))] σ fun r σ' => isS r fun t25 => FinK (cx w0) n (.pv (.str t25)) σ' R) (SCalls (cx w0) strings_makeASCIISet.id [(.pv (.str cutset))] σ fun r σ' => isTup r fun vs => opt ((vs)[0]?) fun t29 => isTup r fun vs_1 => opt ((vs_1)[1]?) fun t30 => isB t30 fun t30_1 => opt (aStore (σ' ++ [.cells 178 (AV.ofValue ti178.zero).cells]) ti178 (.ptr (List.length σ') 0) t29) fun σ'_1 => condB t30_1 (SCalls (cx w0) strings_trimLeftASCII.id [(.pv (.str s)), (.ptr (List.length σ') 0)] σ'_1 fun r_1 σ'_2 => isS r_1 fun t33 => FinK (cx w0) n (.pv (.str t33)) σ'_2 R) (SCalls (cx w0) strings_trimLeftUnicode.id [(.pv (.str s)), (.pv (.str cutset))] σ'_1 fun r_1 σ'_2 => isS r_1 fun t36 => FinK (cx w0) n (.pv (.str t36)) σ'_2 R))) := by kernel_rfl
theorem n13_in (h : b13 (X w0 n) w0 n R σ s cutset t21) : n13 (X w0 n) w0 n R σ s cutset t21 := xr_in (S := cuts) (by kernel_rfl) @h
theorem b0_eq : b0 Z w0 n R σ s cutset = (
  condB ((s : List UInt8) == []) (n5 Z w0 n R σ s cutset true) (n5 Z w0 n R σ s cutset ((cutset : List UInt8) == []))) := by kernel_rfl
theorem calls (h : b0 (X w0 (List.length σ)) w0 (List.length σ) R σ s cutset) : SCalls (cx w0) strings_TrimLeft.id [(.pv (.str s)), (.pv (.str cutset))] σ R :=
  xr_enter (cxOK w0) (x := fe) (S := cuts) (strings_TrimLeft.ok w0) (by kernel_rfl) @h
attribute [irreducible] n5 b5 n13 b13 b0
end strings_TrimLeft
namespace strings_trimLeftASCII
def lvs : List (List Nat) := [[0, 1], [0, 1], [0, 1], [0, 1], [0, 1], [0, 1], [0, 1], [0, 1], [0, 1, 7], [0, 1], [0], [0, 1], [0, 1], [0, 1], [0, 1], [0, 1, 12], [0], [0, 1], [0, 1], [0], [0], [4]]
def lv : Nat → List Nat := lvOf lvs
noncomputable def code : Code := bodyOf Tryz.f111
noncomputable def fe : FE := ⟨Tryz.f111, code, lv⟩
def cuts : List Nat := [5, 19]
abbrev X (w0 : Base) (n : Nat) : XT := xr (cx w0) 16 lv n
theorem ok (w0 : Base) : FOK (cx w0) strings_trimLeftASCII.id fe := ⟨Tryz.func111, by kernel_rfl, by kernel_rfl⟩
section
variable (Z : XT) (w0 : Base) (n : Nat) (R : RT) (σ : Store) (s : List UInt8) (as_ : AV)
def q3 : QT := thenQ (fun env σ => Z (cAt code 19) 19 (prune (lv 19) env) σ (finQ (cx w0) Tryz.f111 n R)) (finQ (cx w0) Tryz.f111 n R)
def q4 : QT := blockQ 0 (q3 Z w0 n R)
def q5 : QT := thenQ (fun env σ => Z (cAt code 4) 4 (prune (lv 4) env) σ (q4 Z w0 n R)) (q4 Z w0 n R)
def n4 : Prop :=
  Z (cAt code 4) 4 [(0, (.pv (.str s))), (1, as_)] σ (q4 Z w0 n R)
def b5 : Prop :=
  pcodeX (cx w0) 16 lv n cuts Z (cAt code 5) 5 [(0, (.pv (.str s))), (1, as_)] σ (q5 Z w0 n R)
def n19 : Prop :=
  Z (cAt code 19) 19 [(0, (.pv (.str s)))] σ (finQ (cx w0) Tryz.f111 n R)
def b19 : Prop :=
  pcodeX (cx w0) 16 lv n cuts Z (cAt code 19) 19 [(0, (.pv (.str s)))] σ (finQ (cx w0) Tryz.f111 n R)
def b0 : Prop :=
  pcodeX (cx w0) 16 lv n cuts Z code 0 (argsE 0 [(.pv (.str s)), as_]) σ (finQ (cx w0) Tryz.f111 n R)
end
variable {Z : XT} {w0 : Base} {n : Nat} {R : RT} {σ τ : Store} {s s' : List UInt8} {as_ as_' : AV}
theorem n4_in (h : b5 (X w0 n) w0 n R σ s as_) : n4 (X w0 n) w0 n R σ s as_ := xr_round (cxOK w0) (S := cuts) (by kernel_rfl : cAt code 4 = .loop (cAt code 5)) @h
theorem b5_eq : b5 Z w0 n R σ s as_ = (
  condB (decide (((List.length (s : List UInt8) : Int) : Int) > 0)) (opt (aIndex tabS ti9.td (.pv (.str s)) 0) fun t10 => isI .u8 t10 fun t10_1 => SCalls (cx w0) strings_asciiSet_contains.id [as_, (.pv (.int .u8 t10_1))] σ fun r σ' => isB r fun t11 => condB (!t11) (n19 Z w0 n R σ' s) (opt (aSlice σ' tabS ti9.td (.pv (.str s)) (some (.pv (.int .i64 1))) none) fun t14 => isS t14 fun t14_1 => n4 Z w0 n R σ' t14_1 as_)) (n19 Z w0 n R σ s)) := by kernel_rfl
theorem b19_eq : b19 Z w0 n R σ s = (
  FinK (cx w0) n (.pv (.str s)) σ R) := by kernel_rfl
theorem n19_in (h : b19 (X w0 n) w0 n R σ s) : n19 (X w0 n) w0 n R σ s := xr_in (S := cuts) (by kernel_rfl) @h
theorem b0_eq : b0 Z w0 n R σ s as_ = (
  n4 Z w0 n R σ s as_) := by kernel_rfl
theorem calls (h : b0 (X w0 (List.length σ)) w0 (List.length σ) R σ s as_) : SCalls (cx w0) strings_trimLeftASCII.id [(.pv (.str s)), as_] σ R :=
  xr_enter (cxOK w0) (x := fe) (S := cuts) (strings_trimLeftASCII.ok w0) (by kernel_rfl) @h
attribute [irreducible] n4 b5 n19 b19 b0
end strings_trimLeftASCII
namespace strings_Cut
def lvs : List (List Nat) := [[0, 1], [0, 1], [0, 1], [0, 1], [4, 5, 6]]
def lv : Nat → List Nat := lvOf lvs
noncomputable def code : Code := bodyOf Tryz.f122
noncomputable def fe : FE := ⟨Tryz.f122, code, lv⟩
def cuts : List Nat := []
abbrev X (w0 : Base) (n : Nat) : XT := xr (cx w0) 13 lv n
theorem ok (w0 : Base) : FOK (cx w0) strings_Cut.id fe := ⟨Tryz.func122, by kernel_rfl, by kernel_rfl⟩
section
variable (Z : XT) (w0 : Base) (n : Nat) (R : RT) (σ : Store) (s sep : List UInt8)
def b0 : Prop :=
  pcodeX (cx w0) 13 lv n cuts Z code 0 (argsE 0 [(.pv (.str s)), (.pv (.str sep))]) σ (finQ (cx w0) Tryz.f122 n R)
end
variable {Z : XT} {w0 : Base} {n : Nat} {R : RT} {σ τ : Store} {s sep : List UInt8}
theorem b0_eq : b0 Z w0 n R σ s sep = (
  SCalls (cx w0) stringslite_Cut.id [(.pv (.str s)), (.pv (.str sep))] σ fun r σ' => isTup r fun vs => opt ((vs)[0]?) fun t10 => isS t10 fun t10_1 => isTup r fun vs_1 => opt ((vs_1)[1]?) fun t11 => isS t11 fun t11_1 => isTup r fun vs_2 => opt ((vs_2)[2]?) fun t12 => isB t12 fun t12_1 => FinK (cx w0) n (.tup [(.pv (.str t10_1)), (.pv (.str t11_1)), (.pv (.bool t12_1))]) σ' R) := by kernel_rfl
theorem calls (h : b0 (X w0 (List.length σ)) w0 (List.length σ) R σ s sep) : SCalls (cx w0) strings_Cut.id [(.pv (.str s)), (.pv (.str sep))] σ R :=
  xr_enter (cxOK w0) (x := fe) (S := cuts) (strings_Cut.ok w0) (by kernel_rfl) @h
attribute [irreducible] b0
end strings_Cut
namespace stringslite_Cut
def lvs : List (List Nat) := [[0, 1], [0, 1], [0, 1], [0, 1], [0, 1], [0, 1, 7], [0, 1, 7], [0, 1, 7, 12], [0, 1, 7], [0, 1, 7], [4, 5, 6], [0], [0], [0], [4, 5, 6]]
def lv : Nat → List Nat := lvOf lvs
noncomputable def code : Code := bodyOf Tryz.f155
noncomputable def fe : FE := ⟨Tryz.f155, code, lv⟩
def cuts : List Nat := []
abbrev X (w0 : Base) (n : Nat) : XT := xr (cx w0) 23 lv n
theorem ok (w0 : Base) : FOK (cx w0) stringslite_Cut.id fe := ⟨Tryz.func155, by kernel_rfl, by kernel_rfl⟩
section
variable (Z : XT) (w0 : Base) (n : Nat) (R : RT) (σ : Store) (s sep : List UInt8)
def b0 : Prop :=
  pcodeX (cx w0) 23 lv n cuts Z code 0 (argsE 0 [(.pv (.str s)), (.pv (.str sep))]) σ (finQ (cx w0) Tryz.f155 n R)
end
variable {Z : XT} {w0 : Base} {n : Nat} {R : RT} {σ τ : Store} {s sep : List UInt8}
theorem b0_eq : b0 Z w0 n R σ s sep = (
  SCalls (cx w0) stringslite_Index.id [(.pv (.str s)), (.pv (.str sep))] σ fun r σ' => isI .i64 r fun t10 => condB (decide ((t10 : Int) ≥ 0)) (opt (aSlice σ' tabS ti9.td (.pv (.str s)) none (some (.pv (.int .i64 t10)))) fun t15 => isS t15 fun t15_1 => opt (aSlice σ' tabS ti9.td (.pv (.str s)) (some (.pv (.int .i64 (IntKind.wrap .i64 (t10 + (List.length (sep : List UInt8) : Int)))))) none) fun t21 => isS t21 fun t21_1 => ((opt (aSlice σ' tabS ti9.td (.pv (.str s)) (some (.pv (.int .i64 (IntKind.wrap .i64 (t10 + (List.length (sep : List UInt8) : Int)))))) none) fun t21_2 => ((t21_2 : AV) = (.pv (.str t21_1)))) ∧ (FinK (cx w0) n (.tup [(.pv (.str t15_1)), (.pv (.str t21_1)), (.pv (.bool true))]) σ' R))) (FinK (cx w0) n (.tup [(.pv (.str s)), (.pv (.str [])), (.pv (.bool false))]) σ' R)) := by kernel_rfl
theorem calls (h : b0 (X w0 (List.length σ)) w0 (List.length σ) R σ s sep) : SCalls (cx w0) stringslite_Cut.id [(.pv (.str s)), (.pv (.str sep))] σ R :=
  xr_enter (cxOK w0) (x := fe) (S := cuts) (stringslite_Cut.ok w0) (by kernel_rfl) @h
attribute [irreducible] b0
end stringslite_Cut
namespace strings_CutPrefix
def lvs : List (List Nat) := [[0, 1], [0, 1], [0, 1], [0, 1], [4, 5]]
def lv : Nat → List Nat := lvOf lvs
noncomputable def code : Code := bodyOf Tryz.f65
noncomputable def fe : FE := ⟨Tryz.f65, code, lv⟩
def cuts : List Nat := []
abbrev X (w0 : Base) (n : Nat) : XT := xr (cx w0) 11 lv n
theorem ok (w0 : Base) : FOK (cx w0) strings_CutPrefix.id fe := ⟨Tryz.func65, by kernel_rfl, by kernel_rfl⟩
section
variable (Z : XT) (w0 : Base) (n : Nat) (R : RT) (σ : Store) (s prefix_ : List UInt8)
def b0 : Prop :=
  pcodeX (cx w0) 11 lv n cuts Z code 0 (argsE 0 [(.pv (.str s)), (.pv (.str prefix_))]) σ (finQ (cx w0) Tryz.f65 n R)
end
variable {Z : XT} {w0 : Base} {n : Nat} {R : RT} {σ τ : Store} {s prefix_ : List UInt8}
theorem b0_eq : b0 Z w0 n R σ s prefix_ = (
  SCalls (cx w0) stringslite_CutPrefix.id [(.pv (.str s)), (.pv (.str prefix_))] σ fun r σ' => isTup r fun vs => opt ((vs)[0]?) fun t9 => isS t9 fun t9_1 => isTup r fun vs_1 => opt ((vs_1)[1]?) fun t10 => isB t10 fun t10_1 => FinK (cx w0) n (.tup [(.pv (.str t9_1)), (.pv (.bool t10_1))]) σ' R) := by kernel_rfl
theorem calls (h : b0 (X w0 (List.length σ)) w0 (List.length σ) R σ s prefix_) : SCalls (cx w0) strings_CutPrefix.id [(.pv (.str s)), (.pv (.str prefix_))] σ R :=
  xr_enter (cxOK w0) (x := fe) (S := cuts) (strings_CutPrefix.ok w0) (by kernel_rfl) @h
attribute [irreducible] b0
end strings_CutPrefix
namespace stringslite_CutPrefix
def lvs : List (List Nat) := [[0, 1], [0, 1], [0, 1], [0, 1], [0, 1], [0, 1, 9], [0], [0], [4, 5], [0, 1], [0, 1], [0, 1], [4, 5]]
def lv : Nat → List Nat := lvOf lvs
noncomputable def code : Code := bodyOf Tryz.f96
noncomputable def fe : FE := ⟨Tryz.f96, code, lv⟩
def cuts : List Nat := []
abbrev X (w0 : Base) (n : Nat) : XT := xr (cx w0) 15 lv n
theorem ok (w0 : Base) : FOK (cx w0) stringslite_CutPrefix.id fe := ⟨Tryz.func96, by kernel_rfl, by kernel_rfl⟩
section
variable (Z : XT) (w0 : Base) (n : Nat) (R : RT) (σ : Store) (s prefix_ : List UInt8)
def b0 : Prop :=
  pcodeX (cx w0) 15 lv n cuts Z code 0 (argsE 0 [(.pv (.str s)), (.pv (.str prefix_))]) σ (finQ (cx w0) Tryz.f96 n R)
end
variable {Z : XT} {w0 : Base} {n : Nat} {R : RT} {σ τ : Store} {s prefix_ : List UInt8}
theorem b0_eq : b0 Z w0 n R σ s prefix_ = (
  SCalls (cx w0) stringslite_HasPrefix.id [(.pv (.str s)), (.pv (.str prefix_))] σ fun r σ' => isB r fun t8 => condB (!t8) (FinK (cx w0) n (.tup [(.pv (.str s)), (.pv (.bool false))]) σ' R) (opt (aSlice σ' tabS ti9.td (.pv (.str s)) (some (.pv (.int .i64 (List.length (prefix_ : List UInt8) : Int)))) none) fun t14 => isS t14 fun t14_1 => FinK (cx w0) n (.tup [(.pv (.str t14_1)), (.pv (.bool true))]) σ' R)) := by kernel_rfl
theorem calls (h : b0 (X w0 (List.length σ)) w0 (List.length σ) R σ s prefix_) : SCalls (cx w0) stringslite_CutPrefix.id [(.pv (.str s)), (.pv (.str prefix_))] σ R :=
  xr_enter (cxOK w0) (x := fe) (S := cuts) (stringslite_CutPrefix.ok w0) (by kernel_rfl) @h
attribute [irreducible] b0
end stringslite_CutPrefix
namespace stringslite_HasPrefix
def lvs : List (List Nat) := [[0, 1], [0, 1], [0, 1], [0, 1], [4]]
def lv : Nat → List Nat := lvOf lvs
noncomputable def code : Code := bodyOf Tryz.f121
noncomputable def fe : FE := ⟨Tryz.f121, code, lv⟩
def cuts : List Nat := [4]
abbrev X (w0 : Base) (n : Nat) : XT := xr (cx w0) 18 lv n
theorem ok (w0 : Base) : FOK (cx w0) stringslite_HasPrefix.id fe := ⟨Tryz.func121, by kernel_rfl, by kernel_rfl⟩
section
variable (Z : XT) (w0 : Base) (n : Nat) (R : RT) (σ : Store) (t4 : Bool) (s prefix_ : List UInt8)
def n4 : Prop :=
  Z (cAt code 4) 4 [(4, (.pv (.bool t4)))] σ (finQ (cx w0) Tryz.f121 n R)
def b4 : Prop :=
  pcodeX (cx w0) 18 lv n cuts Z (cAt code 4) 4 [(4, (.pv (.bool t4)))] σ (finQ (cx w0) Tryz.f121 n R)
def b0 : Prop :=
  pcodeX (cx w0) 18 lv n cuts Z code 0 (argsE 0 [(.pv (.str s)), (.pv (.str prefix_))]) σ (finQ (cx w0) Tryz.f121 n R)
end
variable {Z : XT} {w0 : Base} {n : Nat} {R : RT} {σ τ : Store} {t4 : Bool} {s prefix_ : List UInt8}
theorem b4_eq : b4 Z w0 n R σ t4 = (
  FinK (cx w0) n (.pv (.bool t4)) σ R) := by kernel_rfl
theorem n4_in (h : b4 (X w0 n) w0 n R σ t4) : n4 (X w0 n) w0 n R σ t4 := xr_in (S := cuts) (by kernel_rfl) @h
theorem b0_eq : b0 Z w0 n R σ s prefix_ = (
  condB (decide (((List.length (s : List UInt8) : Int) : Int) ≥ (List.length (prefix_ : List UInt8) : Int))) (opt (aSlice σ tabS ti9.td (.pv (.str s)) none (some (.pv (.int .i64 (List.length (prefix_ : List UInt8) : Int))))) fun t14 => isS t14 fun t14_1 => n4 Z w0 n R σ ((t14_1 : List UInt8) == prefix_)) (n4 Z w0 n R σ false)) := by kernel_rfl
theorem calls (h : b0 (X w0 (List.length σ)) w0 (List.length σ) R σ s prefix_) : SCalls (cx w0) stringslite_HasPrefix.id [(.pv (.str s)), (.pv (.str prefix_))] σ R :=
  xr_enter (cxOK w0) (x := fe) (S := cuts) (stringslite_HasPrefix.ok w0) (by kernel_rfl) @h
attribute [irreducible] n4 b4 b0
end stringslite_HasPrefix
end Go.Sv
