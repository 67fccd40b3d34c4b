/- What the code of Go functions comes to over abstract stores, piece by piece; each equation by the kernel. Printed by a program of this session. -/
import Derived.Test.YtimmjplgogpglaaDoorSvT
import Derived.KernelRfl
set_option linter.unusedVariables false
set_option maxRecDepth 100000
namespace Go.Sv
open Go Go.Proofs
namespace intern_Ids
def lvs : List (List Nat) := [[0, 1, 2], [0, 1, 2], [0, 1, 5], [0, 1, 5], [0, 1, 5], [0, 1, 5, 17], [], [], [6, 7, 8], [0, 1, 5], [0, 1, 5], [0, 1, 5], [0, 1, 5, 9], [0, 1, 5, 9], [0, 1, 10], [0, 1, 10], [1, 10, 11], [1, 10, 11], [6, 7, 8]]
def lv : Nat → List Nat := lvOf lvs
noncomputable def code : Code := bodyOf Tryd.f11
noncomputable def fe : FE := ⟨Tryd.f11, code, lv⟩
def cuts : List Nat := [5]
abbrev X (w0 : Base) (n : Nat) : XT := xr (cx w0) 28 lv n
theorem ok (w0 : Base) : FOK (cx w0) intern_Ids.id fe := ⟨Tryd.func11, by kernel_rfl, by kernel_rfl⟩
section
variable (Z : XT) (w0 : Base) (n : Nat) (R : RT) (σ : Store) (a b equal : AV) (t17 : Bool)
def q3 : QT := thenQ (fun env σ => pcodeX (cx w0) 28 lv n cuts Z (cAt code 10) 10 (prune (lv 10) env) σ (finQ (cx w0) Tryd.f11 n R)) (finQ (cx w0) Tryd.f11 n R)
def n5 : Prop :=
  Z (cAt code 5) 5 [(0, a), (1, b), (5, equal), (17, (.pv (.bool t17)))] σ (q3 Z w0 n R)
def b5 : Prop :=
  pcodeX (cx w0) 28 lv n cuts Z (cAt code 5) 5 [(0, a), (1, b), (5, equal), (17, (.pv (.bool t17)))] σ (q3 Z w0 n R)
def b0 (X : XT) (w0 : Base) (n : Nat) (R : RT) (σ : Store) (a : AV) (b : AV) (equal : Int) : Prop :=
  pcodeX (cx w0) 28 lv n cuts X code 0 (argsE 0 [a, b, (.pv (.int .i64 equal))]) σ (finQ (cx w0) Tryd.f11 n R)
end
variable {Z : XT} {w0 : Base} {n : Nat} {R : RT} {σ τ : Store} {a b equal : AV} {t17 : Bool}
theorem b5_eq : b5 Z w0 n R σ a b equal t17 = (
  condB t17 (opt (aMakeInterface 42 (.pv (.int .i64 1))) fun t18 => FinK (cx w0) n (.tup [.nilsl, .nilsl, t18]) σ R) (opt (aStore ((σ ++ [.mp []]) ++ [.cells 59 (AV.ofValue ti59.zero).cells]) ti59 (.ptr (List.length (σ ++ [.mp []])) 0) (.mref (List.length σ))) fun σ' => opt (calleeV (.func (.func 20) [] [equal, (.ptr (List.length (σ ++ [.mp []])) 0)]) [a]) fun p => SCalls (cx w0) (Prod.fst p) (Prod.snd p) σ' fun r σ'_1 => opt (calleeV (.func (.func 20) [] [equal, (.ptr (List.length (σ ++ [.mp []])) 0)]) [b]) fun p_1 => SCalls (cx w0) (Prod.fst p_1) (Prod.snd p_1) σ'_1 fun r_1 σ'_2 => FinK (cx w0) n (.tup [r, r_1, (.pv (.raw .nilIface))]) σ'_2 R)) := by kernel_rfl
theorem n5_in (h : b5 (X w0 n) w0 n R σ a b equal t17) : n5 (X w0 n) w0 n R σ a b equal t17 := xr_in (S := cuts) (by kernel_rfl) h
theorem b0_eq (X : XT) (w0 : Base) (n : Nat) (R : RT) (σ : Store) (a : AV) (b : AV) (equal : Int) : b0 X w0 n R σ a b equal = (
  ((AV.cells (.pv (.int .i64 equal))).all AV.one = true ∧ (opt (aLoad (σ ++ [.cells 3 (AV.cells (.pv (.int .i64 equal)))]) ti3 (.ptr (List.length σ) 0)) fun t12 => isI .i64 t12 fun t12_1 => condB (decide ((t12_1 : Int) < 0)) (n5 X w0 n R (σ ++ [.cells 3 (AV.cells (.pv (.int .i64 equal)))]) a b (.ptr (List.length σ) 0) true) (opt (aLoad (σ ++ [.cells 3 (AV.cells (.pv (.int .i64 equal)))]) ti3 (.ptr (List.length σ) 0)) fun t15 => isI .i64 t15 fun t15_1 => n5 X w0 n R (σ ++ [.cells 3 (AV.cells (.pv (.int .i64 equal)))]) a b (.ptr (List.length σ) 0) (decide ((t15_1 : Int) > 15)))))) := by kernel_rfl
theorem calls {w0 : Base} {R : RT} {σ : Store} {a : AV} {b : AV} {equal : Int} (h : b0 (X w0 (List.length σ)) w0 (List.length σ) R σ a b equal) : SCalls (cx w0) intern_Ids.id [a, b, (.pv (.int .i64 equal))] σ R :=
  xr_enter (cxOK w0) (x := fe) (S := cuts) (intern_Ids.ok w0) (by kernel_rfl) h
attribute [irreducible] n5 b5 b0
end intern_Ids
namespace intern_Ids_1
def lvs : List (List Nat) := [[0, 1, 2], [0, 1, 2], [0, 1, 2], [0, 1, 2], [0, 1, 2, 5], [0, 1, 2, 5], [0, 1, 2, 5], [1, 2, 5, 11, 12, 13], [1, 2, 5, 11, 12, 13], [1, 2, 5, 11, 12, 13], [1, 2, 5, 11, 12, 13], [1, 2, 5, 11, 12, 13, 14], [1, 2, 5, 11, 12, 13, 14], [1, 2, 5, 11, 12, 13], [5], [1, 2, 5, 11, 12, 13], [1, 2, 5, 11, 12, 13], [1, 2, 5, 11, 12, 13], [1, 2, 5, 11, 12, 13], [1, 2, 5, 7, 11, 12, 13], [1, 2, 5, 7, 11, 12, 13], [1, 2, 5, 8, 11, 12, 13], [1, 2, 5, 8, 11, 12, 13], [1, 2, 5, 8, 9, 10, 11, 12, 13], [1, 2, 5, 8, 9, 10, 11, 12, 13], [1, 2, 5, 8, 9, 10, 11, 12, 13], [1, 2, 5, 8, 9, 11, 12, 13, 27], [1, 2, 5, 8, 11, 12, 13], [1, 2, 5, 8, 11, 12, 13], [1, 2, 5, 8, 9, 11, 12, 13], [1, 2, 5, 9, 11, 12, 13], [1, 2, 5, 9, 11, 12, 13], [1, 2, 5, 11, 12, 13], [5], [5], [4]]
def lv : Nat → List Nat := lvOf lvs
noncomputable def code : Code := bodyOf Tryd.f20
noncomputable def fe : FE := ⟨Tryd.f20, code, lv⟩
def cuts : List Nat := [9, 31, 33]
abbrev X (w0 : Base) (n : Nat) : XT := xr (cx w0) 39 lv n
theorem ok (w0 : Base) : FOK (cx w0) intern_Ids_1.id fe := ⟨Tryd.func20, by kernel_rfl, by kernel_rfl⟩
section
variable (Z : XT) (w0 : Base) (n : Nat) (R : RT) (σ : Store) (l_ t1 t2 out : AV) (n_ : Int) (t11 : AV) (t12 t13 : Int)
def q5 : QT := thenQ (fun env σ => Z (cAt code 33) 33 (prune (lv 33) env) σ (finQ (cx w0) Tryd.f20 n R)) (finQ (cx w0) Tryd.f20 n R)
def q8 : QT := blockQ 0 (q5 Z w0 n R)
def q9 : QT := thenQ (fun env σ => Z (cAt code 8) 8 (prune (lv 8) env) σ (q8 Z w0 n R)) (q8 Z w0 n R)
def q16 : QT := thenQ (fun env σ => pcodeX (cx w0) 39 lv n cuts Z (cAt code 32) 32 (prune (lv 32) env) σ (q9 Z w0 n R)) (q9 Z w0 n R)
def q17 : QT := blockQ 1 (q16 Z w0 n R)
def n8 : Prop :=
  Z (cAt code 8) 8 [(1, t1), (2, t2), (5, out), (11, t11), (12, (.pv (.int .i64 t12))), (13, (.pv (.int .i64 t13)))] σ (q8 Z w0 n R)
def b9 : Prop :=
  pcodeX (cx w0) 39 lv n cuts Z (cAt code 9) 9 [(1, t1), (2, t2), (5, out), (11, t11), (12, (.pv (.int .i64 t12))), (13, (.pv (.int .i64 t13)))] σ (q9 Z w0 n R)
def n31 : Prop :=
  Z (cAt code 31) 31 [(1, t1), (2, t2), (5, out), (9, (.pv (.int .i64 n_))), (11, t11), (12, (.pv (.int .i64 t12))), (13, (.pv (.int .i64 t13)))] σ (q17 Z w0 n R)
def b31 : Prop :=
  pcodeX (cx w0) 39 lv n cuts Z (cAt code 31) 31 [(1, t1), (2, t2), (5, out), (9, (.pv (.int .i64 n_))), (11, t11), (12, (.pv (.int .i64 t12))), (13, (.pv (.int .i64 t13)))] σ (q17 Z w0 n R)
def n33 : Prop :=
  Z (cAt code 33) 33 [(5, out)] σ (finQ (cx w0) Tryd.f20 n R)
def b33 : Prop :=
  pcodeX (cx w0) 39 lv n cuts Z (cAt code 33) 33 [(5, out)] σ (finQ (cx w0) Tryd.f20 n R)
def b0 : Prop :=
  pcodeX (cx w0) 39 lv n cuts Z code 0 (argsE 0 [l_, t1, t2]) σ (finQ (cx w0) Tryd.f20 n R)
end
variable {Z : XT} {w0 : Base} {n : Nat} {R : RT} {σ τ : Store} {t1 t2 out t11 l_ t1' t2' out' t11' : AV} {t12 t13 n_ t12' t13' : Int}
theorem n8_in (h : b9 (X w0 n) w0 n R σ t1 t2 out t11 t12 t13) : n8 (X w0 n) w0 n R σ t1 t2 out t11 t12 t13 := xr_round (cxOK w0) (S := cuts) (by kernel_rfl : cAt code 8 = .loop (cAt code 9)) h
theorem n8_weak (e : EWeak (cx w0) n [(1, t1), (2, t2), (5, out), (11, t11), (12, (.pv (.int .i64 t12))), (13, (.pv (.int .i64 t13)))] σ [(1, t1'), (2, t2'), (5, out'), (11, t11'), (12, (.pv (.int .i64 t12'))), (13, (.pv (.int .i64 t13')))] τ) (h : n8 (X w0 n) w0 n R τ t1' t2' out' t11' t12' t13') : n8 (X w0 n) w0 n R σ t1 t2 out t11 t12 t13 := xr_weak (L := lv) (k := 8) (by kernel_rfl : cAt code 8 = .loop (cAt code 9)) e h
theorem b9_eq : b9 Z w0 n R σ t1 t2 out t11 t12 t13 = (
  condB (decide ((t13 : Int) < t12)) (opt (aIndexAddr σ tabS ti46.td t11 t13) fun t15 => opt (aLoad σ ti9 t15) fun t16 => isS t16 fun t16_1 => opt (aLoad σ ti3 t1) fun t18 => isI .i64 t18 fun t18_1 => SCalls (cx w0) intern_Key.id [(.pv (.str t16_1)), (.pv (.int .i64 t18_1))] σ fun r σ' => isS r fun t19 => opt (aLoad σ' ti59 t2) fun t21 => opt (aLookup σ' tabS ti59.td t21 (.pv (.str t19)) true) fun t23 => isTup t23 fun vs => opt ((vs)[0]?) fun t24 => isI .i64 t24 fun t24_1 => isTup t23 fun vs_1 => opt ((vs_1)[1]?) fun t25 => isB t25 fun t25_1 => condB (!t25_1) (opt (aLoad σ' ti59 t2) fun t28 => opt (aLenS σ' ti59.td t28) fun t29 => isI .i64 t29 fun t29_1 => opt (aLoad σ' ti59 t2) fun t30 => opt (aMapUpd σ' tabS ti59.td t30 (.pv (.str t19)) (.pv (.int .i64 t29_1))) fun σ'_1 => n31 Z w0 n R σ'_1 t1 t2 out t29_1 t11 t12 t13) (n31 Z w0 n R σ' t1 t2 out t24_1 t11 t12 t13)) (n33 Z w0 n R σ out)) := by kernel_rfl
theorem b31_eq : b31 Z w0 n R σ t1 t2 out n_ t11 t12 t13 = (
  opt2 (aBuildSlice σ ti3 false 1 [(0, (.pv (.int .i64 n_)))]) fun t35 σ' => opt2 (aAppend σ' ti3 out t35) fun t36 σ'_1 => n8 Z w0 n R σ'_1 t1 t2 t36 t11 t12 (IntKind.wrap .i64 (t13 + 1))) := by kernel_rfl
theorem n31_in (h : b31 (X w0 n) w0 n R σ t1 t2 out n_ t11 t12 t13) : n31 (X w0 n) w0 n R σ t1 t2 out n_ t11 t12 t13 := xr_in (S := cuts) (by kernel_rfl) h
theorem b33_eq : b33 Z w0 n R σ out = (
  FinK (cx w0) n out σ R) := by kernel_rfl
theorem n33_in (h : b33 (X w0 n) w0 n R σ out) : n33 (X w0 n) w0 n R σ out := xr_in (S := cuts) (by kernel_rfl) h
theorem b0_eq : b0 Z w0 n R σ l_ t1 t2 = (
  opt (aLen ti46.td l_) fun t12 => isI .i64 t12 fun t12_1 => n8 Z w0 n R σ t1 t2 .nilsl l_ t12_1 0) := by kernel_rfl
theorem calls (h : b0 (X w0 (List.length σ)) w0 (List.length σ) R σ l_ t1 t2) : SCalls (cx w0) intern_Ids_1.id [l_, t1, t2] σ R :=
  xr_enter (cxOK w0) (x := fe) (S := cuts) (intern_Ids_1.ok w0) (by kernel_rfl) h
attribute [irreducible] n8 b9 n31 b31 n33 b33 b0
end intern_Ids_1
namespace intern_Key
def lvs : List (List Nat) := [[0, 1], [0, 1], [0, 1], [0, 1], [0, 1], [0, 1, 12], [0], [0], [4], [0, 1], [0, 1], [0, 1], [0, 1, 5], [0, 1, 5], [1, 5, 6], [1, 5, 6], [1, 5, 6], [1, 5, 6], [1, 5, 6, 20], [1, 5, 6], [1, 5, 6], [1, 5, 6], [1, 5, 6, 26], [1, 5, 6], [1, 5, 6], [1, 5, 6], [1, 5, 6, 32], [1, 5, 6], [1, 5, 6], [1, 5, 6], [1, 5, 6], [1, 5, 6], [5, 6, 40], [5, 6], [5, 6], [5, 6], [5, 6], [4]]
def lv : Nat → List Nat := lvOf lvs
noncomputable def code : Code := bodyOf Tryd.f21
noncomputable def fe : FE := ⟨Tryd.f21, code, lv⟩
def cuts : List Nat := [5, 29, 35]
abbrev X (w0 : Base) (n : Nat) : XT := xr (cx w0) 46 lv n
theorem ok (w0 : Base) : FOK (cx w0) intern_Key.id fe := ⟨Tryd.func21, by kernel_rfl, by kernel_rfl⟩
section
variable (Z : XT) (w0 : Base) (n : Nat) (R : RT) (σ : Store) (line : List UInt8) (equal : Int) (t12 : Bool) (s end_ : List UInt8)
def q3 : QT := thenQ (fun env σ => pcodeX (cx w0) 46 lv n cuts Z (cAt code 10) 10 (prune (lv 10) env) σ (finQ (cx w0) Tryd.f21 n R)) (finQ (cx w0) Tryd.f21 n R)
def n5 : Prop :=
  Z (cAt code 5) 5 [(0, (.pv (.str line))), (1, (.pv (.int .i64 equal))), (12, (.pv (.bool t12)))] σ (q3 Z w0 n R)
def b5 : Prop :=
  pcodeX (cx w0) 46 lv n cuts Z (cAt code 5) 5 [(0, (.pv (.str line))), (1, (.pv (.int .i64 equal))), (12, (.pv (.bool t12)))] σ (q3 Z w0 n R)
def n29 : Prop :=
  Z (cAt code 29) 29 [(1, (.pv (.int .i64 equal))), (5, (.pv (.str s))), (6, (.pv (.str end_)))] σ (finQ (cx w0) Tryd.f21 n R)
def b29 : Prop :=
  pcodeX (cx w0) 46 lv n cuts Z (cAt code 29) 29 [(1, (.pv (.int .i64 equal))), (5, (.pv (.str s))), (6, (.pv (.str end_)))] σ (finQ (cx w0) Tryd.f21 n R)
def n35 : Prop :=
  Z (cAt code 35) 35 [(5, (.pv (.str s))), (6, (.pv (.str end_)))] σ (finQ (cx w0) Tryd.f21 n R)
def b35 : Prop :=
  pcodeX (cx w0) 46 lv n cuts Z (cAt code 35) 35 [(5, (.pv (.str s))), (6, (.pv (.str end_)))] σ (finQ (cx w0) Tryd.f21 n R)
def b0 : Prop :=
  pcodeX (cx w0) 46 lv n cuts Z code 0 (argsE 0 [(.pv (.str line)), (.pv (.int .i64 equal))]) σ (finQ (cx w0) Tryd.f21 n R)
end
variable {Z : XT} {w0 : Base} {n : Nat} {R : RT} {σ τ : Store} {line s end_ : List UInt8} {equal : Int} {t12 : Bool}
theorem b5_eq : b5 Z w0 n R σ line equal t12 = (
  condB t12 (FinK (cx w0) n (.pv (.str line)) σ R) (SCalls (cx w0) lines_Bare.id [(.pv (.str line))] σ fun r σ' => isS r fun t15 => opt (aSlice σ' tabS ti9.td (.pv (.str line)) (some (.pv (.int .i64 (List.length (t15 : List UInt8) : Int)))) none) fun t19 => isS t19 fun t19_1 => condB (((IntKind.wrap .i64 (BitVec.ofInt (IntKind.bits .i64) equal &&& BitVec.ofInt (IntKind.bits .i64) 2).toNat) : Int) != 0) (SCalls (cx w0) intern_without.id [(.pv (.str t15))] σ' fun r_1 σ'_1 => isS r_1 fun t25 => n29 Z w0 n R σ'_1 equal t25 t19_1) (condB (((IntKind.wrap .i64 (BitVec.ofInt (IntKind.bits .i64) equal &&& BitVec.ofInt (IntKind.bits .i64) 4).toNat) : Int) != 0) (SCalls (cx w0) intern_amount.id [(.pv (.str t15))] σ' fun r_1 σ'_1 => isS r_1 fun t31 => n29 Z w0 n R σ'_1 equal t31 t19_1) (condB (((IntKind.wrap .i64 (BitVec.ofInt (IntKind.bits .i64) equal &&& BitVec.ofInt (IntKind.bits .i64) 8).toNat) : Int) != 0) (SCalls (cx w0) strings_TrimRight.id [(.pv (.str t15)), (.pv (.str [9, 11, 12, 13, 32]))] σ' fun r_1 σ'_1 => isS r_1 fun t37 => n29 Z w0 n R σ'_1 equal t37 t19_1) (n29 Z w0 n R σ' equal t15 t19_1))))) := by kernel_rfl
theorem n5_in (h : b5 (X w0 n) w0 n R σ line equal t12) : n5 (X w0 n) w0 n R σ line equal t12 := xr_in (S := cuts) (by kernel_rfl) h
theorem b29_eq : b29 Z w0 n R σ equal s end_ = (
  condB (((IntKind.wrap .i64 (BitVec.ofInt (IntKind.bits .i64) equal &&& BitVec.ofInt (IntKind.bits .i64) 1).toNat) : Int) != 0) (SCalls (cx w0) intern_lower.id [(.pv (.str s))] σ fun r σ' => isS r fun t42 => n35 Z w0 n R σ' t42 end_) (n35 Z w0 n R σ s end_)) := by kernel_rfl
theorem n29_in (h : b29 (X w0 n) w0 n R σ equal s end_) : n29 (X w0 n) w0 n R σ equal s end_ := xr_in (S := cuts) (by kernel_rfl) h
theorem b35_eq : b35 Z w0 n R σ s end_ = (
  (List.length (s : List UInt8) + List.length (end_ : List UInt8) ≤ 9223372036854775807 ∧ (FinK (cx w0) n (.pv (.str (s ++ end_))) σ R))) := by kernel_rfl
theorem n35_in (h : b35 (X w0 n) w0 n R σ s end_) : n35 (X w0 n) w0 n R σ s end_ := xr_in (S := cuts) (by kernel_rfl) h
theorem b0_eq : b0 Z w0 n R σ line equal = (
  condB (decide ((equal : Int) < 0)) (n5 Z w0 n R σ line equal true) (n5 Z w0 n R σ line equal (decide ((equal : Int) > 15)))) := by kernel_rfl
theorem calls (h : b0 (X w0 (List.length σ)) w0 (List.length σ) R σ line equal) : SCalls (cx w0) intern_Key.id [(.pv (.str line)), (.pv (.int .i64 equal))] σ R :=
  xr_enter (cxOK w0) (x := fe) (S := cuts) (intern_Key.ok w0) (by kernel_rfl) h
attribute [irreducible] n5 b5 n29 b29 n35 b35 b0
end intern_Key
namespace lines_Split
def lvs : List (List Nat) := [[0], [0], [0], [0], [0, 3], [0, 3], [0, 3], [0, 3], [0, 3], [0, 3], [0, 3, 6], [0, 3], [3], [0, 3], [0, 3], [0, 3], [0, 3, 4], [0, 3, 4], [0, 3, 4], [0, 3, 4, 11], [0, 3], [0, 3, 4], [0, 3, 4], [0, 3, 4], [0, 3, 4], [3], [3], [2]]
def lv : Nat → List Nat := lvOf lvs
noncomputable def code : Code := bodyOf Tryd.f12
noncomputable def fe : FE := ⟨Tryd.f12, code, lv⟩
def cuts : List Nat := [7, 22, 25]
abbrev X (w0 : Base) (n : Nat) : XT := xr (cx w0) 24 lv n
theorem ok (w0 : Base) : FOK (cx w0) lines_Split.id fe := ⟨Tryd.func12, by kernel_rfl, by kernel_rfl⟩
section
variable (Z : XT) (w0 : Base) (n : Nat) (R : RT) (σ : Store) (s : List UInt8) (out : AV) (at_ : Int)
def q5 : QT := thenQ (fun env σ => Z (cAt code 25) 25 (prune (lv 25) env) σ (finQ (cx w0) Tryd.f12 n R)) (finQ (cx w0) Tryd.f12 n R)
def q6 : QT := blockQ 0 (q5 Z w0 n R)
def q7 : QT := thenQ (fun env σ => Z (cAt code 6) 6 (prune (lv 6) env) σ (q6 Z w0 n R)) (q6 Z w0 n R)
def q14 : QT := blockQ 1 (q7 Z w0 n R)
def n6 : Prop :=
  Z (cAt code 6) 6 [(0, (.pv (.str s))), (3, out)] σ (q6 Z w0 n R)
def b7 : Prop :=
  pcodeX (cx w0) 24 lv n cuts Z (cAt code 7) 7 [(0, (.pv (.str s))), (3, out)] σ (q7 Z w0 n R)
def n22 : Prop :=
  Z (cAt code 22) 22 [(0, (.pv (.str s))), (3, out), (4, (.pv (.int .i64 at_)))] σ (q14 Z w0 n R)
def b22 : Prop :=
  pcodeX (cx w0) 24 lv n cuts Z (cAt code 22) 22 [(0, (.pv (.str s))), (3, out), (4, (.pv (.int .i64 at_)))] σ (q14 Z w0 n R)
def n25 : Prop :=
  Z (cAt code 25) 25 [(3, out)] σ (finQ (cx w0) Tryd.f12 n R)
def b25 : Prop :=
  pcodeX (cx w0) 24 lv n cuts Z (cAt code 25) 25 [(3, out)] σ (finQ (cx w0) Tryd.f12 n R)
def b0 : Prop :=
  pcodeX (cx w0) 24 lv n cuts Z code 0 (argsE 0 [(.pv (.str s))]) σ (finQ (cx w0) Tryd.f12 n R)
end
variable {Z : XT} {w0 : Base} {n : Nat} {R : RT} {σ τ : Store} {s s' : List UInt8} {out out' : AV} {at_ : Int}
theorem n6_in (h : b7 (X w0 n) w0 n R σ s out) : n6 (X w0 n) w0 n R σ s out := xr_round (cxOK w0) (S := cuts) (by kernel_rfl : cAt code 6 = .loop (cAt code 7)) h
theorem n6_weak (e : EWeak (cx w0) n [(0, (.pv (.str s))), (3, out)] σ [(0, (.pv (.str s'))), (3, out')] τ) (h : n6 (X w0 n) w0 n R τ s' out') : n6 (X w0 n) w0 n R σ s out := xr_weak (L := lv) (k := 6) (by kernel_rfl : cAt code 6 = .loop (cAt code 7)) e h
theorem b7_eq : b7 Z w0 n R σ s out = (
  condB (!((s : List UInt8) == [])) (SCalls (cx w0) strings_IndexByte.id [(.pv (.str s)), (.pv (.int .u8 10))] σ fun r σ' => isI .i64 r fun t8 => condB (((IntKind.wrap .i64 (t8 + 1)) : Int) == 0) (n22 Z w0 n R σ' s out (List.length (s : List UInt8) : Int)) (n22 Z w0 n R σ' s out (IntKind.wrap .i64 (t8 + 1)))) (n25 Z w0 n R σ out)) := by kernel_rfl
theorem b22_eq : b22 Z w0 n R σ s out at_ = (
  opt (aSlice σ tabS ti9.td (.pv (.str s)) none (some (.pv (.int .i64 at_)))) fun t17 => isS t17 fun t17_1 => opt2 (aBuildSlice σ ti9 false 1 [(0, (.pv (.str t17_1)))]) fun t18 σ' => opt2 (aAppend σ' ti9 out t18) fun t19 σ'_1 => opt (aSlice σ'_1 tabS ti9.td (.pv (.str s)) (some (.pv (.int .i64 at_))) none) fun t22 => isS t22 fun t22_1 => n6 Z w0 n R σ'_1 t22_1 t19) := by kernel_rfl
theorem n22_in (h : b22 (X w0 n) w0 n R σ s out at_) : n22 (X w0 n) w0 n R σ s out at_ := xr_in (S := cuts) (by kernel_rfl) h
theorem b25_eq : b25 Z w0 n R σ out = (
  FinK (cx w0) n out σ R) := by kernel_rfl
theorem n25_in (h : b25 (X w0 n) w0 n R σ out) : n25 (X w0 n) w0 n R σ out := xr_in (S := cuts) (by kernel_rfl) h
theorem b0_eq : b0 Z w0 n R σ s = (
  n6 Z w0 n R σ s .nilsl) := by kernel_rfl
theorem calls (h : b0 (X w0 (List.length σ)) w0 (List.length σ) R σ s) : SCalls (cx w0) lines_Split.id [(.pv (.str s))] σ R :=
  xr_enter (cxOK w0) (x := fe) (S := cuts) (lines_Split.ok w0) (by kernel_rfl) h
attribute [irreducible] n6 b7 n22 b22 n25 b25 b0
end lines_Split
namespace lines_Bare
def lvs : List (List Nat) := [[0], [0], [0], [0], [2]]
def lv : Nat → List Nat := lvOf lvs
noncomputable def code : Code := bodyOf Tryd.f29
noncomputable def fe : FE := ⟨Tryd.f29, code, lv⟩
def cuts : List Nat := []
abbrev X (w0 : Base) (n : Nat) : XT := xr (cx w0) 5 lv n
theorem ok (w0 : Base) : FOK (cx w0) lines_Bare.id fe := ⟨Tryd.func29, by kernel_rfl, by kernel_rfl⟩
section
variable (Z : XT) (w0 : Base) (n : Nat) (R : RT) (σ : Store) (line : List UInt8)
def b0 : Prop :=
  pcodeX (cx w0) 5 lv n cuts Z code 0 (argsE 0 [(.pv (.str line))]) σ (finQ (cx w0) Tryd.f29 n R)
end
variable {Z : XT} {w0 : Base} {n : Nat} {R : RT} {σ τ : Store} {line : List UInt8}
theorem b0_eq : b0 Z w0 n R σ line = (
  SCalls (cx w0) strings_TrimSuffix.id [(.pv (.str line)), (.pv (.str [10]))] σ fun r σ' => isS r fun t4 => FinK (cx w0) n (.pv (.str t4)) σ' R) := by kernel_rfl
theorem calls (h : b0 (X w0 (List.length σ)) w0 (List.length σ) R σ line) : SCalls (cx w0) lines_Bare.id [(.pv (.str line))] σ R :=
  xr_enter (cxOK w0) (x := fe) (S := cuts) (lines_Bare.ok w0) (by kernel_rfl) h
attribute [irreducible] b0
end lines_Bare
namespace filediff_Similarity
def lvs : List (List Nat) := [[0, 1], [0, 1], [0, 1], [0, 1], [0, 1], [0, 1, 16], [], [], [4, 5], [0, 1], [0, 1], [0, 1], [6, 7, 8], [6, 7, 8], [6, 7, 8], [6, 7, 8, 28], [8], [8], [4, 5], [6, 7], [6, 7], [6, 7], [6, 7], [6, 7, 35], [], [], [4, 5], [6, 7], [6, 7], [6, 7], [4, 5]]
def lv : Nat → List Nat := lvOf lvs
noncomputable def code : Code := bodyOf Tryd.f5
noncomputable def fe : FE := ⟨Tryd.f5, code, lv⟩
def cuts : List Nat := [5]
abbrev X (w0 : Base) (n : Nat) : XT := xr (cx w0) 46 lv n
theorem ok (w0 : Base) : FOK (cx w0) filediff_Similarity.id fe := ⟨Tryd.func5, by kernel_rfl, by kernel_rfl⟩
section
variable (Z : XT) (w0 : Base) (n : Nat) (R : RT) (σ : Store) (a b : List UInt8) (t16 : Bool)
def q3 : QT := thenQ (fun env σ => pcodeX (cx w0) 46 lv n cuts Z (cAt code 10) 10 (prune (lv 10) env) σ (finQ (cx w0) Tryd.f5 n R)) (finQ (cx w0) Tryd.f5 n R)
def n5 : Prop :=
  Z (cAt code 5) 5 [(0, (.pv (.str a))), (1, (.pv (.str b))), (16, (.pv (.bool t16)))] σ (q3 Z w0 n R)
def b5 : Prop :=
  pcodeX (cx w0) 46 lv n cuts Z (cAt code 5) 5 [(0, (.pv (.str a))), (1, (.pv (.str b))), (16, (.pv (.bool t16)))] σ (q3 Z w0 n R)
def b0 : Prop :=
  pcodeX (cx w0) 46 lv n cuts Z code 0 (argsE 0 [(.pv (.str a)), (.pv (.str b))]) σ (finQ (cx w0) Tryd.f5 n R)
end
variable {Z : XT} {w0 : Base} {n : Nat} {R : RT} {σ τ : Store} {a b : List UInt8} {t16 : Bool}
theorem b5_eq : b5 Z w0 n R σ a b t16 = (
  condB t16 (opt (aMakeInterface 42 (.pv (.int .i64 2))) fun t17 => FinK (cx w0) n (.tup [(.pv (.int .i64 0)), t17]) σ R) (SCalls (cx w0) lines_Split.id [(.pv (.str a))] σ fun r σ' => SCalls (cx w0) lines_Split.id [(.pv (.str b))] σ' fun r_1 σ'_1 => SCalls (cx w0) intern_Ids.id [r, r_1, (.pv (.int .i64 0))] σ'_1 fun r_2 σ'_2 => isTup r_2 fun vs => opt ((vs)[0]?) fun t24 => isTup r_2 fun vs_1 => opt ((vs_1)[1]?) fun t25 => isTup r_2 fun vs_2 => opt ((vs_2)[2]?) fun t26 => aBinK tabS 23 true .neq t26 (.pv (.raw .nilIface)) fun v => isB v fun b_1 => condB b_1 (FinK (cx w0) n (.tup [(.pv (.int .i64 0)), t26]) σ'_2 R) (opt (aLen ti43.td t24) fun t31 => isI .i64 t31 fun t31_1 => opt (aLen ti43.td t25) fun t33 => isI .i64 t33 fun t33_1 => condB (((IntKind.wrap .i64 (t31_1 + t33_1)) : Int) == 0) (FinK (cx w0) n (.tup [(.pv (.int .i64 100)), (.pv (.raw .nilIface))]) σ'_2 R) (SCalls (cx w0) myers_Common.id [t24, t25] σ'_2 fun r_3 σ'_3 => isI .i64 r_3 fun t38 => opt (aLen ti43.td t24) fun t41 => isI .i64 t41 fun t41_1 => opt (aLen ti43.td t25) fun t43 => isI .i64 t43 fun t43_1 => (((IntKind.wrap .i64 (t41_1 + t43_1)) : Int) ≠ 0 ∧ (FinK (cx w0) n (.tup [(.pv (.int .i64 (IntKind.wrap .i64 (Int.tdiv (IntKind.wrap .i64 (200 * t38)) (IntKind.wrap .i64 (t41_1 + t43_1)))))), (.pv (.raw .nilIface))]) σ'_3 R)))))) := by kernel_rfl
theorem n5_in (h : b5 (X w0 n) w0 n R σ a b t16) : n5 (X w0 n) w0 n R σ a b t16 := xr_in (S := cuts) (by kernel_rfl) h
theorem b0_eq : b0 Z w0 n R σ a b = (
  condB (decide (((List.length (a : List UInt8) : Int) : Int) > 4194304)) (n5 Z w0 n R σ a b true) (n5 Z w0 n R σ a b (decide (((List.length (b : List UInt8) : Int) : Int) > 4194304)))) := by kernel_rfl
theorem calls (h : b0 (X w0 (List.length σ)) w0 (List.length σ) R σ a b) : SCalls (cx w0) filediff_Similarity.id [(.pv (.str a)), (.pv (.str b))] σ R :=
  xr_enter (cxOK w0) (x := fe) (S := cuts) (filediff_Similarity.ok w0) (by kernel_rfl) h
attribute [irreducible] n5 b5 b0
end filediff_Similarity
end Go.Sv
