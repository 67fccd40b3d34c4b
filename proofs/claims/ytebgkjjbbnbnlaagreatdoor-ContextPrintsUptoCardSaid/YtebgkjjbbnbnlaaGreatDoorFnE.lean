/- What the code of Go functions comes to over abstract stores, piece by piece; each equation by the kernel. Printed by a program of this session. -/
import Derived.Test.YtebgkjjbbnbnlaaGreatDoorSvT
import Derived.KernelRfl
set_option linter.unusedVariables false
set_option maxRecDepth 100000
namespace Go.Sv
open Go Go.Proofs
namespace quote_Needs
def lvs : List (List Nat) := [[0], [0], [0], [0], [0], [0, 6], [], [], [2], [0], [0], [0], [0], [0, 8, 9], [0, 8, 9], [0, 8, 9], [0, 8, 9], [0, 8, 9, 10], [0, 8, 9, 10], [0, 8, 9], [], [0, 8, 9], [0, 8, 9], [0, 8, 9], [0, 8, 9], [0, 3, 8, 9], [0, 3, 8, 9], [0, 4, 8, 9], [0, 4, 8, 9], [0, 8, 9, 28], [], [], [2], [0, 8, 9], [0, 8, 9], [], [], [2]]
def lv : Nat → List Nat := lvOf lvs
noncomputable def code : Code := bodyOf Tryz.f133
noncomputable def fe : FE := ⟨Tryz.f133, code, lv⟩
def cuts : List Nat := [15, 29, 35]
abbrev X (w0 : Base) (n : Nat) : XT := xr (cx w0) 30 lv n
def q11 (X : XT) (w0 : Base) (n : Nat) (R : RT) : QT := thenQ (fun env σ => X (cAt code 35) 35 (prune (lv 35) env) σ (finQ (cx w0) Tryz.f133 n R)) (finQ (cx w0) Tryz.f133 n R)
def q14 (X : XT) (w0 : Base) (n : Nat) (R : RT) : QT := blockQ 0 (q11 X w0 n R)
def q15 (X : XT) (w0 : Base) (n : Nat) (R : RT) : QT := thenQ (fun env σ => X (cAt code 14) 14 (prune (lv 14) env) σ (q14 X w0 n R)) (q14 X w0 n R)
def q22 (X : XT) (w0 : Base) (n : Nat) (R : RT) : QT := thenQ (fun env σ => pcodeX (cx w0) 30 lv n cuts X (cAt code 34) 34 (prune (lv 34) env) σ (q15 X w0 n R)) (q15 X w0 n R)
def q23 (X : XT) (w0 : Base) (n : Nat) (R : RT) : QT := blockQ 1 (q22 X w0 n R)
def n14 (X : XT) (w0 : Base) (n : Nat) (R : RT) (σ : Store) (name : List UInt8) (t8 : Int) (t9 : Int) : Prop :=
  X (cAt code 14) 14 [(0, (.pv (.str name))), (8, (.pv (.int .i64 t8))), (9, (.pv (.int .i64 t9)))] σ (q14 X w0 n R)
def b15 (X : XT) (w0 : Base) (n : Nat) (R : RT) (σ : Store) (name : List UInt8) (t8 : Int) (t9 : Int) : Prop :=
  pcodeX (cx w0) 30 lv n cuts X (cAt code 15) 15 [(0, (.pv (.str name))), (8, (.pv (.int .i64 t8))), (9, (.pv (.int .i64 t9)))] σ (q15 X w0 n R)
def n29 (X : XT) (w0 : Base) (n : Nat) (R : RT) (σ : Store) (name : List UInt8) (t8 : Int) (t9 : Int) (t28 : Bool) : Prop :=
  X (cAt code 29) 29 [(0, (.pv (.str name))), (8, (.pv (.int .i64 t8))), (9, (.pv (.int .i64 t9))), (28, (.pv (.bool t28)))] σ (q23 X w0 n R)
def b29 (X : XT) (w0 : Base) (n : Nat) (R : RT) (σ : Store) (name : List UInt8) (t8 : Int) (t9 : Int) (t28 : Bool) : Prop :=
  pcodeX (cx w0) 30 lv n cuts X (cAt code 29) 29 [(0, (.pv (.str name))), (8, (.pv (.int .i64 t8))), (9, (.pv (.int .i64 t9))), (28, (.pv (.bool t28)))] σ (q23 X w0 n R)
def n35 (X : XT) (w0 : Base) (n : Nat) (R : RT) (σ : Store) : Prop :=
  X (cAt code 35) 35 [] σ (finQ (cx w0) Tryz.f133 n R)
def b35 (X : XT) (w0 : Base) (n : Nat) (R : RT) (σ : Store) : Prop :=
  pcodeX (cx w0) 30 lv n cuts X (cAt code 35) 35 [] σ (finQ (cx w0) Tryz.f133 n R)
def b0 (X : XT) (w0 : Base) (n : Nat) (R : RT) (σ : Store) (name : List UInt8) : Prop :=
  pcodeX (cx w0) 30 lv n cuts X code 0 (argsE 0 [(.pv (.str name))]) σ (finQ (cx w0) Tryz.f133 n R)
theorem n14_in {w0 : Base} {n : Nat} {R : RT} {σ : Store} {name : List UInt8} {t8 : Int} {t9 : Int} (h : b15 (X w0 n) w0 n R σ name t8 t9) : n14 (X w0 n) w0 n R σ name t8 t9 := xr_round (cxOK w0) (S := cuts) (by kernel_rfl : cAt code 14 = .loop (cAt code 15)) h
theorem b15_eq (X : XT) (w0 : Base) (n : Nat) (R : RT) (σ : Store) (name : List UInt8) (t8 : Int) (t9 : Int) : b15 X w0 n R σ name t8 t9 = (
  condB (decide ((t9 : Int) < t8)) (opt (aIndex tabS ti9.td (.pv (.str name)) t9) fun t14 => isI .u8 t14 fun t14_1 => condB (decide ((t14_1 : Int) < 33)) (n29 X w0 n R σ name t8 t9 true) (condB (decide ((t14_1 : Int) ≥ 127)) (n29 X w0 n R σ name t8 t9 true) (condB ((t14_1 : Int) == 34) (n29 X w0 n R σ name t8 t9 true) (n29 X w0 n R σ name t8 t9 ((t14_1 : Int) == 92))))) (n35 X w0 n R σ)) := by kernel_rfl
theorem b29_eq (X : XT) (w0 : Base) (n : Nat) (R : RT) (σ : Store) (name : List UInt8) (t8 : Int) (t9 : Int) (t28 : Bool) : b29 X w0 n R σ name t8 t9 t28 = (
  condB t28 (FinK (cx w0) n (.pv (.bool true)) σ R) (n14 X w0 n R σ name t8 (IntKind.wrap .i64 (t9 + 1)))) := by kernel_rfl
theorem n29_in {w0 : Base} {n : Nat} {R : RT} {σ : Store} {name : List UInt8} {t8 : Int} {t9 : Int} {t28 : Bool} (h : b29 (X w0 n) w0 n R σ name t8 t9 t28) : n29 (X w0 n) w0 n R σ name t8 t9 t28 := xr_in (S := cuts) (by kernel_rfl) h
theorem b35_eq (X : XT) (w0 : Base) (n : Nat) (R : RT) (σ : Store) : b35 X w0 n R σ = (
  FinK (cx w0) n (.pv (.bool false)) σ R) := by kernel_rfl
theorem n35_in {w0 : Base} {n : Nat} {R : RT} {σ : Store} (h : b35 (X w0 n) w0 n R σ) : n35 (X w0 n) w0 n R σ := xr_in (S := cuts) (by kernel_rfl) h
theorem b0_eq (X : XT) (w0 : Base) (n : Nat) (R : RT) (σ : Store) (name : List UInt8) : b0 X w0 n R σ name = (
  condB ((name : List UInt8) == []) (FinK (cx w0) n (.pv (.bool true)) σ R) (n14 X w0 n R σ name (List.length (name : List UInt8) : Int) 0)) := by kernel_rfl
theorem ok (w0 : Base) : FOK (cx w0) quote_Needs.id fe := ⟨Tryz.func133, by kernel_rfl, by kernel_rfl⟩
theorem calls {w0 : Base} {R : RT} {σ : Store} {name : List UInt8} (h : b0 (X w0 (List.length σ)) w0 (List.length σ) R σ name) : SCalls (cx w0) quote_Needs.id [(.pv (.str name))] σ R :=
  xr_enter (cxOK w0) (x := fe) (S := cuts) (quote_Needs.ok w0) (by kernel_rfl) h
end quote_Needs
namespace quote_letter
def lvs : List (List Nat) := [[0], [0], [0], [0], [0], [0, 4], [0, 4], [0, 4], [0, 4], [0, 4], [0, 4, 6], [0, 4], [], [0, 4], [0, 4], [0, 4], [0, 4], [0, 4, 12], [4], [4], [2, 3], [0, 4], [0, 4], [], [], [2, 3]]
def lv : Nat → List Nat := lvOf lvs
noncomputable def code : Code := bodyOf Tryz.f134
noncomputable def fe : FE := ⟨Tryz.f134, code, lv⟩
theorem ok (w0 : Base) : FOK (cx w0) quote_letter.id fe := ⟨Tryz.func134, by kernel_rfl, by kernel_rfl⟩
end quote_letter
namespace quote_Quote
def lvs : List (List Nat) := [[0], [0], [0], [0], [0], [0, 10], [0], [0], [2], [0], [0], [0], [0, 3], [0, 3], [0, 3], [0, 3], [0, 3], [0, 3, 14, 15], [0, 3, 14, 15], [0, 3, 14, 15], [0, 3, 14, 15], [0, 3, 14, 15, 16], [0, 3, 14, 15, 16], [0, 3, 14, 15], [3], [0, 3, 14, 15], [0, 3, 14, 15], [0, 3, 14, 15], [0, 3, 14, 15], [0, 3, 4, 14, 15], [0, 3, 4, 14, 15], [0, 3, 5, 14, 15], [0, 3, 5, 14, 15], [0, 3, 5, 6, 7, 14, 15], [0, 3, 5, 6, 7, 14, 15], [0, 3, 5, 6, 7, 14, 15], [0, 3, 5, 6, 14, 15, 28], [0, 3, 6, 14, 15], [0, 3, 6, 14, 15], [0, 3, 6, 14, 15], [0, 3, 5, 14, 15], [0, 3, 5, 14, 15], [0, 3, 5, 14, 15, 33], [0, 3, 5, 14, 15], [0, 3, 5, 14, 15], [0, 3, 14, 15], [3], [3], [3], [3], [2]]
def lv : Nat → List Nat := lvOf lvs
noncomputable def code : Code := bodyOf Tryz.f95
noncomputable def fe : FE := ⟨Tryz.f95, code, lv⟩
def cuts : List Nat := [19, 42, 45, 46]
abbrev X (w0 : Base) (n : Nat) : XT := xr (cx w0) 55 lv n
def q15 (X : XT) (w0 : Base) (n : Nat) (R : RT) : QT := thenQ (fun env σ => X (cAt code 46) 46 (prune (lv 46) env) σ (finQ (cx w0) Tryz.f95 n R)) (finQ (cx w0) Tryz.f95 n R)
def q18 (X : XT) (w0 : Base) (n : Nat) (R : RT) : QT := blockQ 0 (q15 X w0 n R)
def q19 (X : XT) (w0 : Base) (n : Nat) (R : RT) : QT := thenQ (fun env σ => X (cAt code 18) 18 (prune (lv 18) env) σ (q18 X w0 n R)) (q18 X w0 n R)
def q26 (X : XT) (w0 : Base) (n : Nat) (R : RT) : QT := thenQ (fun env σ => X (cAt code 45) 45 (prune (lv 45) env) σ (q19 X w0 n R)) (q19 X w0 n R)
def q27 (X : XT) (w0 : Base) (n : Nat) (R : RT) : QT := blockQ 1 (q26 X w0 n R)
def q34 (X : XT) (w0 : Base) (n : Nat) (R : RT) : QT := blockQ 2 (q27 X w0 n R)
def n18 (X : XT) (w0 : Base) (n : Nat) (R : RT) (σ : Store) (name : List UInt8) (b : AV) (t14 : Int) (t15 : Int) : Prop :=
  X (cAt code 18) 18 [(0, (.pv (.str name))), (3, b), (14, (.pv (.int .i64 t14))), (15, (.pv (.int .i64 t15)))] σ (q18 X w0 n R)
def b19 (X : XT) (w0 : Base) (n : Nat) (R : RT) (σ : Store) (name : List UInt8) (b : AV) (t14 : Int) (t15 : Int) : Prop :=
  pcodeX (cx w0) 55 lv n cuts X (cAt code 19) 19 [(0, (.pv (.str name))), (3, b), (14, (.pv (.int .i64 t14))), (15, (.pv (.int .i64 t15)))] σ (q19 X w0 n R)
def n42 (X : XT) (w0 : Base) (n : Nat) (R : RT) (σ : Store) (name : List UInt8) (b : AV) (c : Int) (t14 : Int) (t15 : Int) (t33 : Bool) : Prop :=
  X (cAt code 42) 42 [(0, (.pv (.str name))), (3, b), (5, (.pv (.int .u8 c))), (14, (.pv (.int .i64 t14))), (15, (.pv (.int .i64 t15))), (33, (.pv (.bool t33)))] σ (q34 X w0 n R)
def b42 (X : XT) (w0 : Base) (n : Nat) (R : RT) (σ : Store) (name : List UInt8) (b : AV) (c : Int) (t14 : Int) (t15 : Int) (t33 : Bool) : Prop :=
  pcodeX (cx w0) 55 lv n cuts X (cAt code 42) 42 [(0, (.pv (.str name))), (3, b), (5, (.pv (.int .u8 c))), (14, (.pv (.int .i64 t14))), (15, (.pv (.int .i64 t15))), (33, (.pv (.bool t33)))] σ (q34 X w0 n R)
def n45 (X : XT) (w0 : Base) (n : Nat) (R : RT) (σ : Store) (name : List UInt8) (b : AV) (t14 : Int) (t15 : Int) : Prop :=
  X (cAt code 45) 45 [(0, (.pv (.str name))), (3, b), (14, (.pv (.int .i64 t14))), (15, (.pv (.int .i64 t15)))] σ (q19 X w0 n R)
def b45 (X : XT) (w0 : Base) (n : Nat) (R : RT) (σ : Store) (name : List UInt8) (b : AV) (t14 : Int) (t15 : Int) : Prop :=
  pcodeX (cx w0) 55 lv n cuts X (cAt code 45) 45 [(0, (.pv (.str name))), (3, b), (14, (.pv (.int .i64 t14))), (15, (.pv (.int .i64 t15)))] σ (q19 X w0 n R)
def n46 (X : XT) (w0 : Base) (n : Nat) (R : RT) (σ : Store) (b : AV) : Prop :=
  X (cAt code 46) 46 [(3, b)] σ (finQ (cx w0) Tryz.f95 n R)
def b46 (X : XT) (w0 : Base) (n : Nat) (R : RT) (σ : Store) (b : AV) : Prop :=
  pcodeX (cx w0) 55 lv n cuts X (cAt code 46) 46 [(3, b)] σ (finQ (cx w0) Tryz.f95 n R)
def b0 (X : XT) (w0 : Base) (n : Nat) (R : RT) (σ : Store) (name : List UInt8) : Prop :=
  pcodeX (cx w0) 55 lv n cuts X code 0 (argsE 0 [(.pv (.str name))]) σ (finQ (cx w0) Tryz.f95 n R)
theorem n18_in {w0 : Base} {n : Nat} {R : RT} {σ : Store} {name : List UInt8} {b : AV} {t14 : Int} {t15 : Int} (h : b19 (X w0 n) w0 n R σ name b t14 t15) : n18 (X w0 n) w0 n R σ name b t14 t15 := xr_round (cxOK w0) (S := cuts) (by kernel_rfl : cAt code 18 = .loop (cAt code 19)) h
theorem n18_weak {w0 : Base} {n : Nat} {R : RT} {σ τ : Store} {name : List UInt8} {b : AV} {t14 : Int} {t15 : Int} {name' : List UInt8} {b' : AV} {t14' : Int} {t15' : Int} (e : EWeak (cx w0) n [(0, (.pv (.str name))), (3, b), (14, (.pv (.int .i64 t14))), (15, (.pv (.int .i64 t15)))] σ [(0, (.pv (.str name'))), (3, b'), (14, (.pv (.int .i64 t14'))), (15, (.pv (.int .i64 t15')))] τ) (h : n18 (X w0 n) w0 n R τ name' b' t14' t15') : n18 (X w0 n) w0 n R σ name b t14 t15 := xr_weak (L := lv) (k := 18) (by kernel_rfl : cAt code 18 = .loop (cAt code 19)) e h
theorem b19_eq (X : XT) (w0 : Base) (n : Nat) (R : RT) (σ : Store) (name : List UInt8) (b : AV) (t14 : Int) (t15 : Int) : b19 X w0 n R σ name b t14 t15 = (
  condB (decide ((t15 : Int) < t14)) (opt (aIndex tabS ti9.td (.pv (.str name)) t15) fun t20 => isI .u8 t20 fun t20_1 => SCalls (cx w0) quote_letter.id [(.pv (.int .u8 t20_1))] σ fun r σ' => isTup r fun vs => opt ((vs)[0]?) fun t24 => isI .u8 t24 fun t24_1 => isTup r fun vs_1 => opt ((vs_1)[1]?) fun t25 => isB t25 fun t25_1 => condB t25_1 (SCalls (cx w0) strings_Builder_WriteByte.id [b, (.pv (.int .u8 92))] σ' fun r_1 σ'_1 => SCalls (cx w0) strings_Builder_WriteByte.id [b, (.pv (.int .u8 t24_1))] σ'_1 fun r_2 σ'_2 => n45 X w0 n R σ'_2 name b t14 t15) (condB (decide ((t20_1 : Int) < 32)) (n42 X w0 n R σ' name b t20_1 t14 t15 true) (n42 X w0 n R σ' name b t20_1 t14 t15 (decide ((t20_1 : Int) ≥ 127))))) (n46 X w0 n R σ b)) := by kernel_rfl
theorem b42_eq (X : XT) (w0 : Base) (n : Nat) (R : RT) (σ : Store) (name : List UInt8) (b : AV) (c : Int) (t14 : Int) (t15 : Int) (t33 : Bool) : b42 X w0 n R σ name b c t14 t15 t33 = (
  condB t33 ((0 ≤ (6 : Int) ∧ ((0 ≤ (3 : Int) ∧ (opt2 (aBuildSlice σ ti5 true 4 [(0, (.pv (.int .u8 92))), (1, (.pv (.int .u8 (IntKind.wrap .u8 (48 + (Int.fdiv c (2 ^ (min (6 : Int).toNat (IntKind.bits .u8))))))))), (2, (.pv (.int .u8 (IntKind.wrap .u8 (48 + (IntKind.wrap .u8 (BitVec.ofInt (IntKind.bits .u8) (Int.fdiv c (2 ^ (min (3 : Int).toNat (IntKind.bits .u8)))) &&& BitVec.ofInt (IntKind.bits .u8) 7).toNat)))))), (3, (.pv (.int .u8 (IntKind.wrap .u8 (48 + (IntKind.wrap .u8 (BitVec.ofInt (IntKind.bits .u8) c &&& BitVec.ofInt (IntKind.bits .u8) 7).toNat))))))]) fun t50 σ' => SCalls (cx w0) strings_Builder_Write.id [b, t50] σ' fun r σ'_1 => n45 X w0 n R σ'_1 name b t14 t15))))) (SCalls (cx w0) strings_Builder_WriteByte.id [b, (.pv (.int .u8 c))] σ fun r σ' => n45 X w0 n R σ' name b t14 t15)) := by kernel_rfl
theorem n42_in {w0 : Base} {n : Nat} {R : RT} {σ : Store} {name : List UInt8} {b : AV} {c : Int} {t14 : Int} {t15 : Int} {t33 : Bool} (h : b42 (X w0 n) w0 n R σ name b c t14 t15 t33) : n42 (X w0 n) w0 n R σ name b c t14 t15 t33 := xr_in (S := cuts) (by kernel_rfl) h
theorem b45_eq (X : XT) (w0 : Base) (n : Nat) (R : RT) (σ : Store) (name : List UInt8) (b : AV) (t14 : Int) (t15 : Int) : b45 X w0 n R σ name b t14 t15 = (
  n18 X w0 n R σ name b t14 (IntKind.wrap .i64 (t15 + 1))) := by kernel_rfl
theorem n45_in {w0 : Base} {n : Nat} {R : RT} {σ : Store} {name : List UInt8} {b : AV} {t14 : Int} {t15 : Int} (h : b45 (X w0 n) w0 n R σ name b t14 t15) : n45 (X w0 n) w0 n R σ name b t14 t15 := xr_in (S := cuts) (by kernel_rfl) h
theorem b46_eq (X : XT) (w0 : Base) (n : Nat) (R : RT) (σ : Store) (b : AV) : b46 X w0 n R σ b = (
  SCalls (cx w0) strings_Builder_WriteByte.id [b, (.pv (.int .u8 34))] σ fun r σ' => SCalls (cx w0) strings_Builder_String.id [b] σ' fun r_1 σ'_1 => isS r_1 fun t54 => FinK (cx w0) n (.pv (.str t54)) σ'_1 R) := by kernel_rfl
theorem n46_in {w0 : Base} {n : Nat} {R : RT} {σ : Store} {b : AV} (h : b46 (X w0 n) w0 n R σ b) : n46 (X w0 n) w0 n R σ b := xr_in (S := cuts) (by kernel_rfl) h
theorem b0_eq (X : XT) (w0 : Base) (n : Nat) (R : RT) (σ : Store) (name : List UInt8) : b0 X w0 n R σ name = (
  SCalls (cx w0) quote_Needs.id [(.pv (.str name))] σ fun r σ' => isB r fun t9 => condB (!t9) (FinK (cx w0) n (.pv (.str name)) σ' R) (SCalls (cx w0) strings_Builder_WriteByte.id [(.ptr (List.length σ') 0), (.pv (.int .u8 34))] (σ' ++ [.bld 58 5 []]) fun r_1 σ'_1 => n18 X w0 n R σ'_1 name (.ptr (List.length σ') 0) (List.length (name : List UInt8) : Int) 0)) := by kernel_rfl
theorem ok (w0 : Base) : FOK (cx w0) quote_Quote.id fe := ⟨Tryz.func95, by kernel_rfl, by kernel_rfl⟩
theorem calls {w0 : Base} {R : RT} {σ : Store} {name : List UInt8} (h : b0 (X w0 (List.length σ)) w0 (List.length σ) R σ name) : SCalls (cx w0) quote_Quote.id [(.pv (.str name))] σ R :=
  xr_enter (cxOK w0) (x := fe) (S := cuts) (quote_Quote.ok w0) (by kernel_rfl) h
end quote_Quote
namespace selvageref02_Needs
def lvs : List (List Nat) := [[0], [0], [0], [0], [0], [0, 3], [0, 3], [0, 3], [0, 3], [0, 3], [0, 3, 8], [0, 3], [0], [0, 3], [0, 3], [0, 3], [0, 3], [0, 3, 4], [0, 3, 4], [0, 3, 27], [], [], [2], [0, 3], [0, 3], [0], [0], [2]]
def lv : Nat → List Nat := lvOf lvs
noncomputable def code : Code := bodyOf Tryz.f103
noncomputable def fe : FE := ⟨Tryz.f103, code, lv⟩
def cuts : List Nat := [7, 19, 25]
abbrev X (w0 : Base) (n : Nat) : XT := xr (cx w0) 30 lv n
def q3 (X : XT) (w0 : Base) (n : Nat) (R : RT) : QT := thenQ (fun env σ => X (cAt code 25) 25 (prune (lv 25) env) σ (finQ (cx w0) Tryz.f103 n R)) (finQ (cx w0) Tryz.f103 n R)
def q6 (X : XT) (w0 : Base) (n : Nat) (R : RT) : QT := blockQ 0 (q3 X w0 n R)
def q7 (X : XT) (w0 : Base) (n : Nat) (R : RT) : QT := thenQ (fun env σ => X (cAt code 6) 6 (prune (lv 6) env) σ (q6 X w0 n R)) (q6 X w0 n R)
def q14 (X : XT) (w0 : Base) (n : Nat) (R : RT) : QT := thenQ (fun env σ => pcodeX (cx w0) 30 lv n cuts X (cAt code 24) 24 (prune (lv 24) env) σ (q7 X w0 n R)) (q7 X w0 n R)
def q15 (X : XT) (w0 : Base) (n : Nat) (R : RT) : QT := blockQ 1 (q14 X w0 n R)
def n6 (X : XT) (w0 : Base) (n : Nat) (R : RT) (σ : Store) (name : List UInt8) (i : Int) : Prop :=
  X (cAt code 6) 6 [(0, (.pv (.str name))), (3, (.pv (.int .i64 i)))] σ (q6 X w0 n R)
def b7 (X : XT) (w0 : Base) (n : Nat) (R : RT) (σ : Store) (name : List UInt8) (i : Int) : Prop :=
  pcodeX (cx w0) 30 lv n cuts X (cAt code 7) 7 [(0, (.pv (.str name))), (3, (.pv (.int .i64 i)))] σ (q7 X w0 n R)
def n19 (X : XT) (w0 : Base) (n : Nat) (R : RT) (σ : Store) (name : List UInt8) (i : Int) (t27 : Bool) : Prop :=
  X (cAt code 19) 19 [(0, (.pv (.str name))), (3, (.pv (.int .i64 i))), (27, (.pv (.bool t27)))] σ (q15 X w0 n R)
def b19 (X : XT) (w0 : Base) (n : Nat) (R : RT) (σ : Store) (name : List UInt8) (i : Int) (t27 : Bool) : Prop :=
  pcodeX (cx w0) 30 lv n cuts X (cAt code 19) 19 [(0, (.pv (.str name))), (3, (.pv (.int .i64 i))), (27, (.pv (.bool t27)))] σ (q15 X w0 n R)
def n25 (X : XT) (w0 : Base) (n : Nat) (R : RT) (σ : Store) (name : List UInt8) : Prop :=
  X (cAt code 25) 25 [(0, (.pv (.str name)))] σ (finQ (cx w0) Tryz.f103 n R)
def b25 (X : XT) (w0 : Base) (n : Nat) (R : RT) (σ : Store) (name : List UInt8) : Prop :=
  pcodeX (cx w0) 30 lv n cuts X (cAt code 25) 25 [(0, (.pv (.str name)))] σ (finQ (cx w0) Tryz.f103 n R)
def b0 (X : XT) (w0 : Base) (n : Nat) (R : RT) (σ : Store) (name : List UInt8) : Prop :=
  pcodeX (cx w0) 30 lv n cuts X code 0 (argsE 0 [(.pv (.str name))]) σ (finQ (cx w0) Tryz.f103 n R)
theorem n6_in {w0 : Base} {n : Nat} {R : RT} {σ : Store} {name : List UInt8} {i : Int} (h : b7 (X w0 n) w0 n R σ name i) : n6 (X w0 n) w0 n R σ name i := xr_round (cxOK w0) (S := cuts) (by kernel_rfl : cAt code 6 = .loop (cAt code 7)) h
theorem b7_eq (X : XT) (w0 : Base) (n : Nat) (R : RT) (σ : Store) (name : List UInt8) (i : Int) : b7 X w0 n R σ name i = (
  condB (decide ((i : Int) < (List.length (name : List UInt8) : Int))) (opt (aIndex tabS ti9.td (.pv (.str name)) i) fun t13 => isI .u8 t13 fun t13_1 => condB (decide ((t13_1 : Int) < 33)) (n19 X w0 n R σ name i true) (condB ((t13_1 : Int) == 34) (n19 X w0 n R σ name i true) (condB ((t13_1 : Int) == 92) (n19 X w0 n R σ name i true) (n19 X w0 n R σ name i (decide ((t13_1 : Int) ≥ 127)))))) (n25 X w0 n R σ name)) := by kernel_rfl
theorem b19_eq (X : XT) (w0 : Base) (n : Nat) (R : RT) (σ : Store) (name : List UInt8) (i : Int) (t27 : Bool) : b19 X w0 n R σ name i t27 = (
  condB t27 (FinK (cx w0) n (.pv (.bool true)) σ R) (n6 X w0 n R σ name (IntKind.wrap .i64 (i + 1)))) := by kernel_rfl
theorem n19_in {w0 : Base} {n : Nat} {R : RT} {σ : Store} {name : List UInt8} {i : Int} {t27 : Bool} (h : b19 (X w0 n) w0 n R σ name i t27) : n19 (X w0 n) w0 n R σ name i t27 := xr_in (S := cuts) (by kernel_rfl) h
theorem b25_eq (X : XT) (w0 : Base) (n : Nat) (R : RT) (σ : Store) (name : List UInt8) : b25 X w0 n R σ name = (
  FinK (cx w0) n (.pv (.bool ((name : List UInt8) == []))) σ R) := by kernel_rfl
theorem n25_in {w0 : Base} {n : Nat} {R : RT} {σ : Store} {name : List UInt8} (h : b25 (X w0 n) w0 n R σ name) : n25 (X w0 n) w0 n R σ name := xr_in (S := cuts) (by kernel_rfl) h
theorem b0_eq (X : XT) (w0 : Base) (n : Nat) (R : RT) (σ : Store) (name : List UInt8) : b0 X w0 n R σ name = (
  n6 X w0 n R σ name 0) := by kernel_rfl
theorem ok (w0 : Base) : FOK (cx w0) selvageref02_Needs.id fe := ⟨Tryz.func103, by kernel_rfl, by kernel_rfl⟩
theorem calls {w0 : Base} {R : RT} {σ : Store} {name : List UInt8} (h : b0 (X w0 (List.length σ)) w0 (List.length σ) R σ name) : SCalls (cx w0) selvageref02_Needs.id [(.pv (.str name))] σ R :=
  xr_enter (cxOK w0) (x := fe) (S := cuts) (selvageref02_Needs.ok w0) (by kernel_rfl) h
end selvageref02_Needs
namespace selvageref02_escape
def lvs : List (List Nat) := [[0], [0], [0], [0], [0], [0, 3], [0, 3], [0, 3], [0, 3], [0, 3], [0, 3, 6], [0, 3], [0], [0, 3], [0, 3], [0, 3], [0, 3], [0, 3, 12], [3], [3], [2], [0, 3], [0, 3], [0], [0], [0], [0, 23], [0], [0], [2], [0], [0], [0], [4], [4], [2]]
def lv : Nat → List Nat := lvOf lvs
noncomputable def code : Code := bodyOf Tryz.f104
noncomputable def fe : FE := ⟨Tryz.f104, code, lv⟩
theorem ok (w0 : Base) : FOK (cx w0) selvageref02_escape.id fe := ⟨Tryz.func104, by kernel_rfl, by kernel_rfl⟩
end selvageref02_escape
namespace selvageref02_Quote
def lvs : List (List Nat) := [[0], [0], [0], [0], [0], [0, 7], [0], [0], [2], [0], [0], [0], [0, 3], [0, 3], [0, 3], [0, 3, 4], [0, 3, 4], [0, 3, 4], [0, 3, 4], [0, 3, 4], [0, 3, 4, 13], [0, 3, 4], [3], [0, 3, 4], [0, 3, 4], [0, 3, 4], [0, 3, 4], [3], [3], [2]]
def lv : Nat → List Nat := lvOf lvs
noncomputable def code : Code := bodyOf Tryz.f56
noncomputable def fe : FE := ⟨Tryz.f56, code, lv⟩
def cuts : List Nat := [17, 27]
abbrev X (w0 : Base) (n : Nat) : XT := xr (cx w0) 26 lv n
def q13 (X : XT) (w0 : Base) (n : Nat) (R : RT) : QT := thenQ (fun env σ => X (cAt code 27) 27 (prune (lv 27) env) σ (finQ (cx w0) Tryz.f56 n R)) (finQ (cx w0) Tryz.f56 n R)
def q16 (X : XT) (w0 : Base) (n : Nat) (R : RT) : QT := blockQ 0 (q13 X w0 n R)
def q17 (X : XT) (w0 : Base) (n : Nat) (R : RT) : QT := thenQ (fun env σ => X (cAt code 16) 16 (prune (lv 16) env) σ (q16 X w0 n R)) (q16 X w0 n R)
def n16 (X : XT) (w0 : Base) (n : Nat) (R : RT) (σ : Store) (name : List UInt8) (out : AV) (i : Int) : Prop :=
  X (cAt code 16) 16 [(0, (.pv (.str name))), (3, out), (4, (.pv (.int .i64 i)))] σ (q16 X w0 n R)
def b17 (X : XT) (w0 : Base) (n : Nat) (R : RT) (σ : Store) (name : List UInt8) (out : AV) (i : Int) : Prop :=
  pcodeX (cx w0) 26 lv n cuts X (cAt code 17) 17 [(0, (.pv (.str name))), (3, out), (4, (.pv (.int .i64 i)))] σ (q17 X w0 n R)
def n27 (X : XT) (w0 : Base) (n : Nat) (R : RT) (σ : Store) (out : AV) : Prop :=
  X (cAt code 27) 27 [(3, out)] σ (finQ (cx w0) Tryz.f56 n R)
def b27 (X : XT) (w0 : Base) (n : Nat) (R : RT) (σ : Store) (out : AV) : Prop :=
  pcodeX (cx w0) 26 lv n cuts X (cAt code 27) 27 [(3, out)] σ (finQ (cx w0) Tryz.f56 n R)
def b0 (X : XT) (w0 : Base) (n : Nat) (R : RT) (σ : Store) (name : List UInt8) : Prop :=
  pcodeX (cx w0) 26 lv n cuts X code 0 (argsE 0 [(.pv (.str name))]) σ (finQ (cx w0) Tryz.f56 n R)
theorem n16_in {w0 : Base} {n : Nat} {R : RT} {σ : Store} {name : List UInt8} {out : AV} {i : Int} (h : b17 (X w0 n) w0 n R σ name out i) : n16 (X w0 n) w0 n R σ name out i := xr_round (cxOK w0) (S := cuts) (by kernel_rfl : cAt code 16 = .loop (cAt code 17)) h
theorem b17_eq (X : XT) (w0 : Base) (n : Nat) (R : RT) (σ : Store) (name : List UInt8) (out : AV) (i : Int) : b17 X w0 n R σ name out i = (
  condB (decide ((i : Int) < (List.length (name : List UInt8) : Int))) (opt (aIndex tabS ti9.td (.pv (.str name)) i) fun t19 => isI .u8 t19 fun t19_1 => SCalls (cx w0) selvageref02_escape.id [(.pv (.int .u8 t19_1))] σ fun r σ' => isS r fun t20 => opt2 (aAppend σ' ti5 out (.pv (.str t20))) fun t21 σ'_1 => n16 X w0 n R σ'_1 name t21 (IntKind.wrap .i64 (i + 1))) (n27 X w0 n R σ out)) := by kernel_rfl
theorem b27_eq (X : XT) (w0 : Base) (n : Nat) (R : RT) (σ : Store) (out : AV) : b27 X w0 n R σ out = (
  opt2 (aBuildSlice σ ti5 false 1 [(0, (.pv (.int .u8 34)))]) fun t23 σ' => opt2 (aAppend σ' ti5 out t23) fun t24 σ'_1 => opt2 (aConvert σ'_1 tabS ti56.td ti9.td t24) fun t25 σ'_2 => isS t25 fun t25_1 => FinK (cx w0) n (.pv (.str t25_1)) σ'_2 R) := by kernel_rfl
theorem n27_in {w0 : Base} {n : Nat} {R : RT} {σ : Store} {out : AV} (h : b27 (X w0 n) w0 n R σ out) : n27 (X w0 n) w0 n R σ out := xr_in (S := cuts) (by kernel_rfl) h
theorem b0_eq (X : XT) (w0 : Base) (n : Nat) (R : RT) (σ : Store) (name : List UInt8) : b0 X w0 n R σ name = (
  SCalls (cx w0) selvageref02_Needs.id [(.pv (.str name))] σ fun r σ' => isB r fun t6 => condB (!t6) (FinK (cx w0) n (.pv (.str name)) σ' R) (opt2 (aBuildSlice σ' ti5 true 1 [(0, (.pv (.int .u8 34)))]) fun t9 σ'_1 => n16 X w0 n R σ'_1 name t9 0)) := by kernel_rfl
theorem ok (w0 : Base) : FOK (cx w0) selvageref02_Quote.id fe := ⟨Tryz.func56, by kernel_rfl, by kernel_rfl⟩
theorem calls {w0 : Base} {R : RT} {σ : Store} {name : List UInt8} (h : b0 (X w0 (List.length σ)) w0 (List.length σ) R σ name) : SCalls (cx w0) selvageref02_Quote.id [(.pv (.str name))] σ R :=
  xr_enter (cxOK w0) (x := fe) (S := cuts) (selvageref02_Quote.ok w0) (by kernel_rfl) h
end selvageref02_Quote
end Go.Sv
