/- What the code of Go functions comes to over abstract stores, piece by piece; each equation by the kernel. Printed by a program of this session. -/
import Derived.Test.YtebgkjjbbnbnlaaGreatDoorSvT
import Derived.KernelRfl
set_option linter.unusedVariables false
set_option maxRecDepth 100000
namespace Go.Sv
open Go Go.Proofs
namespace lines_Split
def lvs : List (List Nat) := [[0], [0], [0], [0], [0, 3], [0, 3], [0, 3], [0, 3], [0, 3], [0, 3], [0, 3, 6], [0, 3], [3], [0, 3], [0, 3], [0, 3], [0, 3, 4], [0, 3, 4], [0, 3, 4], [0, 3, 4, 11], [0, 3], [0, 3, 4], [0, 3, 4], [0, 3, 4], [0, 3, 4], [3], [3], [2]]
def lv : Nat → List Nat := lvOf lvs
noncomputable def code : Code := bodyOf Tryz.f23
noncomputable def fe : FE := ⟨Tryz.f23, code, lv⟩
def cuts : List Nat := [7, 22, 25]
abbrev X (w0 : Base) (n : Nat) : XT := xr (cx w0) 24 lv n
def q5 (X : XT) (w0 : Base) (n : Nat) (R : RT) : QT := thenQ (fun env σ => X (cAt code 25) 25 (prune (lv 25) env) σ (finQ (cx w0) Tryz.f23 n R)) (finQ (cx w0) Tryz.f23 n R)
def q6 (X : XT) (w0 : Base) (n : Nat) (R : RT) : QT := blockQ 0 (q5 X w0 n R)
def q7 (X : XT) (w0 : Base) (n : Nat) (R : RT) : QT := thenQ (fun env σ => X (cAt code 6) 6 (prune (lv 6) env) σ (q6 X w0 n R)) (q6 X w0 n R)
def q14 (X : XT) (w0 : Base) (n : Nat) (R : RT) : QT := blockQ 1 (q7 X w0 n R)
def n6 (X : XT) (w0 : Base) (n : Nat) (R : RT) (σ : Store) (s : List UInt8) (out : AV) : Prop :=
  X (cAt code 6) 6 [(0, (.pv (.str s))), (3, out)] σ (q6 X w0 n R)
def b7 (X : XT) (w0 : Base) (n : Nat) (R : RT) (σ : Store) (s : List UInt8) (out : AV) : Prop :=
  pcodeX (cx w0) 24 lv n cuts X (cAt code 7) 7 [(0, (.pv (.str s))), (3, out)] σ (q7 X w0 n R)
def n22 (X : XT) (w0 : Base) (n : Nat) (R : RT) (σ : Store) (s : List UInt8) (out : AV) (at_ : Int) : Prop :=
  X (cAt code 22) 22 [(0, (.pv (.str s))), (3, out), (4, (.pv (.int .i64 at_)))] σ (q14 X w0 n R)
def b22 (X : XT) (w0 : Base) (n : Nat) (R : RT) (σ : Store) (s : List UInt8) (out : AV) (at_ : Int) : Prop :=
  pcodeX (cx w0) 24 lv n cuts X (cAt code 22) 22 [(0, (.pv (.str s))), (3, out), (4, (.pv (.int .i64 at_)))] σ (q14 X w0 n R)
def n25 (X : XT) (w0 : Base) (n : Nat) (R : RT) (σ : Store) (out : AV) : Prop :=
  X (cAt code 25) 25 [(3, out)] σ (finQ (cx w0) Tryz.f23 n R)
def b25 (X : XT) (w0 : Base) (n : Nat) (R : RT) (σ : Store) (out : AV) : Prop :=
  pcodeX (cx w0) 24 lv n cuts X (cAt code 25) 25 [(3, out)] σ (finQ (cx w0) Tryz.f23 n R)
def b0 (X : XT) (w0 : Base) (n : Nat) (R : RT) (σ : Store) (s : List UInt8) : Prop :=
  pcodeX (cx w0) 24 lv n cuts X code 0 (argsE 0 [(.pv (.str s))]) σ (finQ (cx w0) Tryz.f23 n R)
theorem n6_in {w0 : Base} {n : Nat} {R : RT} {σ : Store} {s : List UInt8} {out : AV} (h : b7 (X w0 n) w0 n R σ s out) : n6 (X w0 n) w0 n R σ s out := xr_round (cxOK w0) (S := cuts) (by kernel_rfl : cAt code 6 = .loop (cAt code 7)) h
theorem n6_weak {w0 : Base} {n : Nat} {R : RT} {σ τ : Store} {s : List UInt8} {out : AV} {s' : List UInt8} {out' : AV} (e : EWeak (cx w0) n [(0, (.pv (.str s))), (3, out)] σ [(0, (.pv (.str s'))), (3, out')] τ) (h : n6 (X w0 n) w0 n R τ s' out') : n6 (X w0 n) w0 n R σ s out := xr_weak (L := lv) (k := 6) (by kernel_rfl : cAt code 6 = .loop (cAt code 7)) e h
theorem b7_eq (X : XT) (w0 : Base) (n : Nat) (R : RT) (σ : Store) (s : List UInt8) (out : AV) : b7 X w0 n R σ s out = (
  condB (!((s : List UInt8) == [])) (SCalls (cx w0) strings_IndexByte.id [(.pv (.str s)), (.pv (.int .u8 10))] σ fun r σ' => isI .i64 r fun t8 => condB (((IntKind.wrap .i64 (t8 + 1)) : Int) == 0) (n22 X w0 n R σ' s out (List.length (s : List UInt8) : Int)) (n22 X w0 n R σ' s out (IntKind.wrap .i64 (t8 + 1)))) (n25 X w0 n R σ out)) := by kernel_rfl
theorem b22_eq (X : XT) (w0 : Base) (n : Nat) (R : RT) (σ : Store) (s : List UInt8) (out : AV) (at_ : Int) : b22 X w0 n R σ s out at_ = (
  opt (aSlice σ tabS ti9.td (.pv (.str s)) none (some (.pv (.int .i64 at_)))) fun t17 => isS t17 fun t17_1 => opt2 (aBuildSlice σ ti9 false 1 [(0, (.pv (.str t17_1)))]) fun t18 σ' => opt2 (aAppend σ' ti9 out t18) fun t19 σ'_1 => opt (aSlice σ'_1 tabS ti9.td (.pv (.str s)) (some (.pv (.int .i64 at_))) none) fun t22 => isS t22 fun t22_1 => n6 X w0 n R σ'_1 t22_1 t19) := by kernel_rfl
theorem n22_in {w0 : Base} {n : Nat} {R : RT} {σ : Store} {s : List UInt8} {out : AV} {at_ : Int} (h : b22 (X w0 n) w0 n R σ s out at_) : n22 (X w0 n) w0 n R σ s out at_ := xr_in (S := cuts) (by kernel_rfl) h
theorem b25_eq (X : XT) (w0 : Base) (n : Nat) (R : RT) (σ : Store) (out : AV) : b25 X w0 n R σ out = (
  FinK (cx w0) n out σ R) := by kernel_rfl
theorem n25_in {w0 : Base} {n : Nat} {R : RT} {σ : Store} {out : AV} (h : b25 (X w0 n) w0 n R σ out) : n25 (X w0 n) w0 n R σ out := xr_in (S := cuts) (by kernel_rfl) h
theorem b0_eq (X : XT) (w0 : Base) (n : Nat) (R : RT) (σ : Store) (s : List UInt8) : b0 X w0 n R σ s = (
  n6 X w0 n R σ s .nilsl) := by kernel_rfl
theorem ok (w0 : Base) : FOK (cx w0) lines_Split.id fe := ⟨Tryz.func23, by kernel_rfl, by kernel_rfl⟩
theorem calls {w0 : Base} {R : RT} {σ : Store} {s : List UInt8} (h : b0 (X w0 (List.length σ)) w0 (List.length σ) R σ s) : SCalls (cx w0) lines_Split.id [(.pv (.str s))] σ R :=
  xr_enter (cxOK w0) (x := fe) (S := cuts) (lines_Split.ok w0) (by kernel_rfl) h
end lines_Split
namespace quote_meant
def lvs : List (List Nat) := [[0], [0], [0], [0], [0], [0, 4], [0, 4], [0, 4], [0, 4], [0, 4], [0, 4, 6], [0, 4], [], [0, 4], [0, 4], [0, 4], [0, 4], [0, 4, 13], [4], [4], [2, 3], [0, 4], [0, 4], [], [], [2, 3]]
def lv : Nat → List Nat := lvOf lvs
noncomputable def code : Code := bodyOf Tryz.f117
noncomputable def fe : FE := ⟨Tryz.f117, code, lv⟩
theorem ok (w0 : Base) : FOK (cx w0) quote_meant.id fe := ⟨Tryz.func117, by kernel_rfl, by kernel_rfl⟩
end quote_meant
namespace quote_octal
def lvs : List (List Nat) := [[0], [0], [0], [0], [0], [0, 13], [], [], [2, 3], [0], [0], [0], [0, 4], [0, 4], [0, 4], [0, 4, 14], [0, 4, 14], [0, 4, 14], [0, 4, 14], [0, 4, 14, 15], [0, 4, 14, 15], [0, 4, 14], [4], [0, 4, 14], [0, 4, 14], [0, 4, 14], [0, 4, 14], [0, 4, 5, 14], [0, 4, 5, 14], [0, 4, 5, 14], [0, 4, 5, 14, 26], [], [], [2, 3], [0, 4, 5, 14], [0, 4, 5, 14], [0, 4, 14], [4], [4], [2, 3]]
def lv : Nat → List Nat := lvOf lvs
noncomputable def code : Code := bodyOf Tryz.f118
noncomputable def fe : FE := ⟨Tryz.f118, code, lv⟩
theorem ok (w0 : Base) : FOK (cx w0) quote_octal.id fe := ⟨Tryz.func118, by kernel_rfl, by kernel_rfl⟩
end quote_octal
namespace quote_Unquote
def lvs : List (List Nat) := [[0], [0], [0], [0], [0], [0, 16], [0], [0], [0, 5], [0, 5], [0, 5], [0, 5, 20], [0], [0, 5], [0, 5], [0, 5], [2, 3, 4], [0], [0], [0], [0, 6], [0, 6], [0, 6], [0, 6, 7], [0, 6, 7], [0, 6, 7], [0, 6, 7], [0, 6, 7], [0, 6, 7, 32], [0, 6, 7], [], [0, 6, 7], [0, 6, 7], [0, 6, 7], [0, 6, 7], [0, 6, 7, 8], [0, 6, 7, 8], [0, 6, 7, 8], [0, 6, 7, 8, 36], [0, 6, 7], [0, 6, 7], [2, 3, 4], [0, 6, 7, 8], [0, 6, 7, 8], [0, 6, 7, 8, 45], [], [], [2, 3, 4], [0, 6, 7, 8], [0, 6, 7, 8], [0, 6, 7, 8, 49], [0, 6, 7, 8], [0, 6, 7, 8], [0, 6, 7], [0, 6, 7], [0, 6, 7], [0, 6, 7], [0, 6, 7], [0, 6, 7], [0, 6, 7, 9], [0, 6, 7, 9], [0, 6, 7, 9], [0, 6, 7, 9, 63], [], [0, 6, 7, 9], [0, 6, 7, 9], [0, 6, 7, 9], [0, 6, 7, 9], [0, 6, 7, 9, 10, 11], [0, 6, 7, 9, 10, 11], [0, 6, 7, 9, 10, 70], [0, 6, 7, 10], [0, 6, 7, 10], [0, 6, 7], [0, 6, 7], [0, 6, 7], [0, 6, 7, 9], [0, 6, 7, 9], [0, 6, 7, 9], [0, 6, 7, 12, 13], [0, 6, 7, 12, 13], [0, 6, 7, 12, 13], [0, 6, 7, 12, 83], [], [], [2, 3, 4], [0, 6, 7, 12], [0, 6, 7, 12], [0, 6, 7, 12], [0, 6, 7], [], [], [2, 3, 4]]
def lv : Nat → List Nat := lvOf lvs
noncomputable def code : Code := bodyOf Tryz.f74
noncomputable def fe : FE := ⟨Tryz.f74, code, lv⟩
theorem ok (w0 : Base) : FOK (cx w0) quote_Unquote.id fe := ⟨Tryz.func74, by kernel_rfl, by kernel_rfl⟩
end quote_Unquote
namespace strings_CutPrefix
def lvs : List (List Nat) := [[0, 1], [0, 1], [0, 1], [0, 1], [4, 5]]
def lv : Nat → List Nat := lvOf lvs
noncomputable def code : Code := bodyOf Tryz.f40
noncomputable def fe : FE := ⟨Tryz.f40, code, lv⟩
theorem ok (w0 : Base) : FOK (cx w0) strings_CutPrefix.id fe := ⟨Tryz.func40, by kernel_rfl, by kernel_rfl⟩
end strings_CutPrefix
namespace stringslite_CutPrefix
def lvs : List (List Nat) := [[0, 1], [0, 1], [0, 1], [0, 1], [0, 1], [0, 1, 9], [0], [0], [4, 5], [0, 1], [0, 1], [0, 1], [4, 5]]
def lv : Nat → List Nat := lvOf lvs
noncomputable def code : Code := bodyOf Tryz.f76
noncomputable def fe : FE := ⟨Tryz.f76, code, lv⟩
theorem ok (w0 : Base) : FOK (cx w0) stringslite_CutPrefix.id fe := ⟨Tryz.func76, by kernel_rfl, by kernel_rfl⟩
end stringslite_CutPrefix
namespace stringslite_HasPrefix
def lvs : List (List Nat) := [[0, 1], [0, 1], [0, 1], [0, 1], [4]]
def lv : Nat → List Nat := lvOf lvs
noncomputable def code : Code := bodyOf Tryz.f120
noncomputable def fe : FE := ⟨Tryz.f120, code, lv⟩
theorem ok (w0 : Base) : FOK (cx w0) stringslite_HasPrefix.id fe := ⟨Tryz.func120, by kernel_rfl, by kernel_rfl⟩
end stringslite_HasPrefix
end Go.Sv
