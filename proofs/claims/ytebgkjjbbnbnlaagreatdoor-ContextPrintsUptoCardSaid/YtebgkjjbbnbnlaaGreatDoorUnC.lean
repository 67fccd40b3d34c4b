/- What the code of Go functions comes to over abstract stores, piece by piece; each equation by the kernel. Printed by a program of this session. -/
import Derived.Test.YtebgkjjbbnbnlaaGreatDoorSvT
import Derived.KernelRfl
set_option linter.unusedVariables false
set_option maxRecDepth 100000
namespace Go.Sv
open Go Go.Proofs
namespace selvageref11_has
def lvs : List (List Nat) := [[0, 1], [0, 1], [0, 1], [0, 1], [0, 1], [0, 1, 5], [0, 1, 5], [0, 1, 5], [0, 1, 5], [0, 1, 5], [0, 1, 5, 10], [0, 1, 5], [], [0, 1, 5], [0, 1, 5], [0, 1, 5], [0, 1, 5], [0, 1, 5, 6], [0, 1, 5, 6], [0, 1, 5, 6], [0, 1, 5, 6], [0, 1, 5, 6], [0, 1, 5, 6, 16], [0, 1, 5, 6], [0, 1, 5], [0, 1, 5, 6], [0, 1, 5, 6], [0, 1, 5, 6], [0, 1, 5, 6], [0, 1, 5, 6, 25], [], [], [4], [0, 1, 5, 6], [0, 1, 5, 6], [0, 1, 5], [], [], [4]]
def lv : Nat → List Nat := lvOf lvs
noncomputable def code : Code := bodyOf Tryz.f93
noncomputable def fe : FE := ⟨Tryz.f93, code, lv⟩
def cuts : List Nat := [7, 19, 35, 36]
abbrev X (w0 : Base) (n : Nat) : XT := xr (cx w0) 26 lv n
def q3 (X : XT) (w0 : Base) (n : Nat) (R : RT) : QT := thenQ (fun env σ => X (cAt code 36) 36 (prune (lv 36) env) σ (finQ (cx w0) Tryz.f93 n R)) (finQ (cx w0) Tryz.f93 n R)
def q6 (X : XT) (w0 : Base) (n : Nat) (R : RT) : QT := blockQ 0 (q3 X w0 n R)
def q7 (X : XT) (w0 : Base) (n : Nat) (R : RT) : QT := thenQ (fun env σ => X (cAt code 6) 6 (prune (lv 6) env) σ (q6 X w0 n R)) (q6 X w0 n R)
def q14 (X : XT) (w0 : Base) (n : Nat) (R : RT) : QT := thenQ (fun env σ => X (cAt code 35) 35 (prune (lv 35) env) σ (q7 X w0 n R)) (q7 X w0 n R)
def q15 (X : XT) (w0 : Base) (n : Nat) (R : RT) : QT := blockQ 1 (q14 X w0 n R)
def q18 (X : XT) (w0 : Base) (n : Nat) (R : RT) : QT := blockQ 2 (q15 X w0 n R)
def q19 (X : XT) (w0 : Base) (n : Nat) (R : RT) : QT := thenQ (fun env σ => X (cAt code 18) 18 (prune (lv 18) env) σ (q18 X w0 n R)) (q18 X w0 n R)
def n6 (X : XT) (w0 : Base) (n : Nat) (R : RT) (σ : Store) (s : List UInt8) (bytes : List UInt8) (i : Int) : Prop :=
  X (cAt code 6) 6 [(0, (.pv (.str s))), (1, (.pv (.str bytes))), (5, (.pv (.int .i64 i)))] σ (q6 X w0 n R)
def b7 (X : XT) (w0 : Base) (n : Nat) (R : RT) (σ : Store) (s : List UInt8) (bytes : List UInt8) (i : Int) : Prop :=
  pcodeX (cx w0) 26 lv n cuts X (cAt code 7) 7 [(0, (.pv (.str s))), (1, (.pv (.str bytes))), (5, (.pv (.int .i64 i)))] σ (q7 X w0 n R)
def n18 (X : XT) (w0 : Base) (n : Nat) (R : RT) (σ : Store) (s : List UInt8) (bytes : List UInt8) (i : Int) (k : Int) : Prop :=
  X (cAt code 18) 18 [(0, (.pv (.str s))), (1, (.pv (.str bytes))), (5, (.pv (.int .i64 i))), (6, (.pv (.int .i64 k)))] σ (q18 X w0 n R)
def b19 (X : XT) (w0 : Base) (n : Nat) (R : RT) (σ : Store) (s : List UInt8) (bytes : List UInt8) (i : Int) (k : Int) : Prop :=
  pcodeX (cx w0) 26 lv n cuts X (cAt code 19) 19 [(0, (.pv (.str s))), (1, (.pv (.str bytes))), (5, (.pv (.int .i64 i))), (6, (.pv (.int .i64 k)))] σ (q19 X w0 n R)
def n35 (X : XT) (w0 : Base) (n : Nat) (R : RT) (σ : Store) (s : List UInt8) (bytes : List UInt8) (i : Int) : Prop :=
  X (cAt code 35) 35 [(0, (.pv (.str s))), (1, (.pv (.str bytes))), (5, (.pv (.int .i64 i)))] σ (q7 X w0 n R)
def b35 (X : XT) (w0 : Base) (n : Nat) (R : RT) (σ : Store) (s : List UInt8) (bytes : List UInt8) (i : Int) : Prop :=
  pcodeX (cx w0) 26 lv n cuts X (cAt code 35) 35 [(0, (.pv (.str s))), (1, (.pv (.str bytes))), (5, (.pv (.int .i64 i)))] σ (q7 X w0 n R)
def n36 (X : XT) (w0 : Base) (n : Nat) (R : RT) (σ : Store) : Prop :=
  X (cAt code 36) 36 [] σ (finQ (cx w0) Tryz.f93 n R)
def b36 (X : XT) (w0 : Base) (n : Nat) (R : RT) (σ : Store) : Prop :=
  pcodeX (cx w0) 26 lv n cuts X (cAt code 36) 36 [] σ (finQ (cx w0) Tryz.f93 n R)
def b0 (X : XT) (w0 : Base) (n : Nat) (R : RT) (σ : Store) (s : List UInt8) (bytes : List UInt8) : Prop :=
  pcodeX (cx w0) 26 lv n cuts X code 0 (argsE 0 [(.pv (.str s)), (.pv (.str bytes))]) σ (finQ (cx w0) Tryz.f93 n R)
theorem n6_in {w0 : Base} {n : Nat} {R : RT} {σ : Store} {s : List UInt8} {bytes : List UInt8} {i : Int} (h : b7 (X w0 n) w0 n R σ s bytes i) : n6 (X w0 n) w0 n R σ s bytes i := xr_round (cxOK w0) (S := cuts) (by kernel_rfl : cAt code 6 = .loop (cAt code 7)) h
theorem b7_eq (X : XT) (w0 : Base) (n : Nat) (R : RT) (σ : Store) (s : List UInt8) (bytes : List UInt8) (i : Int) : b7 X w0 n R σ s bytes i = (
  condB (decide ((i : Int) < (List.length (s : List UInt8) : Int))) (n18 X w0 n R σ s bytes i 0) (n36 X w0 n R σ)) := by kernel_rfl
theorem n18_in {w0 : Base} {n : Nat} {R : RT} {σ : Store} {s : List UInt8} {bytes : List UInt8} {i : Int} {k : Int} (h : b19 (X w0 n) w0 n R σ s bytes i k) : n18 (X w0 n) w0 n R σ s bytes i k := xr_round (cxOK w0) (S := cuts) (by kernel_rfl : cAt code 18 = .loop (cAt code 19)) h
theorem b19_eq (X : XT) (w0 : Base) (n : Nat) (R : RT) (σ : Store) (s : List UInt8) (bytes : List UInt8) (i : Int) (k : Int) : b19 X w0 n R σ s bytes i k = (
  condB (decide ((k : Int) < (List.length (bytes : List UInt8) : Int))) (opt (aIndex tabS ti9.td (.pv (.str s)) i) fun t21 => isI .u8 t21 fun t21_1 => opt (aIndex tabS ti9.td (.pv (.str bytes)) k) fun t24 => isI .u8 t24 fun t24_1 => condB ((t21_1 : Int) == t24_1) (FinK (cx w0) n (.pv (.bool true)) σ R) (n18 X w0 n R σ s bytes i (IntKind.wrap .i64 (k + 1)))) (n35 X w0 n R σ s bytes i)) := by kernel_rfl
theorem b35_eq (X : XT) (w0 : Base) (n : Nat) (R : RT) (σ : Store) (s : List UInt8) (bytes : List UInt8) (i : Int) : b35 X w0 n R σ s bytes i = (
  n6 X w0 n R σ s bytes (IntKind.wrap .i64 (i + 1))) := by kernel_rfl
theorem n35_in {w0 : Base} {n : Nat} {R : RT} {σ : Store} {s : List UInt8} {bytes : List UInt8} {i : Int} (h : b35 (X w0 n) w0 n R σ s bytes i) : n35 (X w0 n) w0 n R σ s bytes i := xr_in (S := cuts) (by kernel_rfl) h
theorem b36_eq (X : XT) (w0 : Base) (n : Nat) (R : RT) (σ : Store) : b36 X w0 n R σ = (
  FinK (cx w0) n (.pv (.bool false)) σ R) := by kernel_rfl
theorem n36_in {w0 : Base} {n : Nat} {R : RT} {σ : Store} (h : b36 (X w0 n) w0 n R σ) : n36 (X w0 n) w0 n R σ := xr_in (S := cuts) (by kernel_rfl) h
theorem b0_eq (X : XT) (w0 : Base) (n : Nat) (R : RT) (σ : Store) (s : List UInt8) (bytes : List UInt8) : b0 X w0 n R σ s bytes = (
  n6 X w0 n R σ s bytes 0) := by kernel_rfl
theorem ok (w0 : Base) : FOK (cx w0) selvageref11_has.id fe := ⟨Tryz.func93, by kernel_rfl, by kernel_rfl⟩
theorem calls {w0 : Base} {R : RT} {σ : Store} {s : List UInt8} {bytes : List UInt8} (h : b0 (X w0 (List.length σ)) w0 (List.length σ) R σ s bytes) : SCalls (cx w0) selvageref11_has.id [(.pv (.str s)), (.pv (.str bytes))] σ R :=
  xr_enter (cxOK w0) (x := fe) (S := cuts) (selvageref11_has.ok w0) (by kernel_rfl) h
end selvageref11_has
namespace selvageref11_NameOK
def lvs : List (List Nat) := [[0], [0], [1], [1], [2]]
def lv : Nat → List Nat := lvOf lvs
noncomputable def code : Code := bodyOf Tryz.f49
noncomputable def fe : FE := ⟨Tryz.f49, code, lv⟩
def cuts : List Nat := [4]
abbrev X (w0 : Base) (n : Nat) : XT := xr (cx w0) 18 lv n
def n4 (X : XT) (w0 : Base) (n : Nat) (R : RT) (σ : Store) (t2 : Bool) : Prop :=
  X (cAt code 4) 4 [(2, (.pv (.bool t2)))] σ (finQ (cx w0) Tryz.f49 n R)
def b4 (X : XT) (w0 : Base) (n : Nat) (R : RT) (σ : Store) (t2 : Bool) : Prop :=
  pcodeX (cx w0) 18 lv n cuts X (cAt code 4) 4 [(2, (.pv (.bool t2)))] σ (finQ (cx w0) Tryz.f49 n R)
def b0 (X : XT) (w0 : Base) (n : Nat) (R : RT) (σ : Store) (n_ : AV) : Prop :=
  pcodeX (cx w0) 18 lv n cuts X code 0 (argsE 0 [n_]) σ (finQ (cx w0) Tryz.f49 n R)
theorem b4_eq (X : XT) (w0 : Base) (n : Nat) (R : RT) (σ : Store) (t2 : Bool) : b4 X w0 n R σ t2 = (
  FinK (cx w0) n (.pv (.bool t2)) σ R) := by kernel_rfl
theorem n4_in {w0 : Base} {n : Nat} {R : RT} {σ : Store} {t2 : Bool} (h : b4 (X w0 n) w0 n R σ t2) : n4 (X w0 n) w0 n R σ t2 := xr_in (S := cuts) (by kernel_rfl) h
theorem b0_eq (X : XT) (w0 : Base) (n : Nat) (R : RT) (σ : Store) (n_ : AV) : b0 X w0 n R σ n_ = (
  ((AV.cells n_).all AV.one = true ∧ (opt (aFieldAddr tabS ti23.td (.ptr (List.length σ) 0) 0) fun t3 => opt (aLoad (σ ++ [.cells 23 (AV.cells n_)]) ti9 t3) fun t4 => isS t4 fun t4_1 => condB (!((t4_1 : List UInt8) == [])) (opt (aFieldAddr tabS ti23.td (.ptr (List.length σ) 0) 0) fun t7 => opt (aLoad (σ ++ [.cells 23 (AV.cells n_)]) ti9 t7) fun t8 => isS t8 fun t8_1 => SCalls (cx w0) selvageref11_has.id [(.pv (.str t8_1)), (.pv (.str [0]))] (σ ++ [.cells 23 (AV.cells n_)]) fun r σ' => isB r fun t9 => condB (!t9) (opt (aFieldAddr tabS ti23.td (.ptr (List.length σ) 0) 1) fun t13 => opt (aLoad σ' ti9 t13) fun t14 => isS t14 fun t14_1 => SCalls (cx w0) selvageref11_has.id [(.pv (.str t14_1)), (.pv (.str [9, 10, 0]))] σ' fun r_1 σ'_1 => isB r_1 fun t15 => n4 X w0 n R σ'_1 (!t15)) (n4 X w0 n R σ' false)) (n4 X w0 n R (σ ++ [.cells 23 (AV.cells n_)]) false)))) := by kernel_rfl
theorem ok (w0 : Base) : FOK (cx w0) selvageref11_NameOK.id fe := ⟨Tryz.func49, by kernel_rfl, by kernel_rfl⟩
theorem calls {w0 : Base} {R : RT} {σ : Store} {n_ : AV} (h : b0 (X w0 (List.length σ)) w0 (List.length σ) R σ n_) : SCalls (cx w0) selvageref11_NameOK.id [n_] σ R :=
  xr_enter (cxOK w0) (x := fe) (S := cuts) (selvageref11_NameOK.ok w0) (by kernel_rfl) h
end selvageref11_NameOK
namespace selvageref11_Shown
def lvs : List (List Nat) := [[0], [0], [1], [1], [1, 3], [1, 3], [1, 3], [1, 3, 9], [1, 3], [3], [3], [3], [2]]
def lv : Nat → List Nat := lvOf lvs
noncomputable def code : Code := bodyOf Tryz.f26
noncomputable def fe : FE := ⟨Tryz.f26, code, lv⟩
def cuts : List Nat := [10]
abbrev X (w0 : Base) (n : Nat) : XT := xr (cx w0) 16 lv n
def n10 (X : XT) (w0 : Base) (n : Nat) (R : RT) (σ : Store) (s : List UInt8) : Prop :=
  X (cAt code 10) 10 [(3, (.pv (.str s)))] σ (finQ (cx w0) Tryz.f26 n R)
def b10 (X : XT) (w0 : Base) (n : Nat) (R : RT) (σ : Store) (s : List UInt8) : Prop :=
  pcodeX (cx w0) 16 lv n cuts X (cAt code 10) 10 [(3, (.pv (.str s)))] σ (finQ (cx w0) Tryz.f26 n R)
def b0 (X : XT) (w0 : Base) (n : Nat) (R : RT) (σ : Store) (n_ : AV) : Prop :=
  pcodeX (cx w0) 16 lv n cuts X code 0 (argsE 0 [n_]) σ (finQ (cx w0) Tryz.f26 n R)
theorem b10_eq (X : XT) (w0 : Base) (n : Nat) (R : RT) (σ : Store) (s : List UInt8) : b10 X w0 n R σ s = (
  FinK (cx w0) n (.pv (.str s)) σ R) := by kernel_rfl
theorem n10_in {w0 : Base} {n : Nat} {R : RT} {σ : Store} {s : List UInt8} (h : b10 (X w0 n) w0 n R σ s) : n10 (X w0 n) w0 n R σ s := xr_in (S := cuts) (by kernel_rfl) h
theorem b0_eq (X : XT) (w0 : Base) (n : Nat) (R : RT) (σ : Store) (n_ : AV) : b0 X w0 n R σ n_ = (
  ((AV.cells n_).all AV.one = true ∧ (opt (aFieldAddr tabS ti23.td (.ptr (List.length σ) 0) 0) fun t4 => opt (aLoad (σ ++ [.cells 23 (AV.cells n_)]) ti9 t4) fun t5 => isS t5 fun t5_1 => SCalls (cx w0) selvageref02_Quote.id [(.pv (.str t5_1))] (σ ++ [.cells 23 (AV.cells n_)]) fun r σ' => isS r fun t6 => opt (aFieldAddr tabS ti23.td (.ptr (List.length σ) 0) 1) fun t7 => opt (aLoad σ' ti9 t7) fun t8 => isS t8 fun t8_1 => condB (!((t8_1 : List UInt8) == [])) ((List.length (t6 : List UInt8) + List.length ([9] : List UInt8) ≤ 9223372036854775807 ∧ (opt (aFieldAddr tabS ti23.td (.ptr (List.length σ) 0) 1) fun t12 => opt (aLoad σ' ti9 t12) fun t13 => isS t13 fun t13_1 => (List.length ((t6 ++ [9]) : List UInt8) + List.length (t13_1 : List UInt8) ≤ 9223372036854775807 ∧ (n10 X w0 n R σ' ((t6 ++ [9]) ++ t13_1)))))) (n10 X w0 n R σ' t6)))) := by kernel_rfl
theorem ok (w0 : Base) : FOK (cx w0) selvageref11_Shown.id fe := ⟨Tryz.func26, by kernel_rfl, by kernel_rfl⟩
theorem calls {w0 : Base} {R : RT} {σ : Store} {n_ : AV} (h : b0 (X w0 (List.length σ)) w0 (List.length σ) R σ n_) : SCalls (cx w0) selvageref11_Shown.id [n_] σ R :=
  xr_enter (cxOK w0) (x := fe) (S := cuts) (selvageref11_Shown.ok w0) (by kernel_rfl) h
end selvageref11_Shown
namespace selvageref11_Place
def lvs : List (List Nat) := [[0, 1], [0, 1], [0, 1], [0, 1], [0, 1], [0, 6], [0], [0], [4], [0], [0], [0], [4]]
def lv : Nat → List Nat := lvOf lvs
noncomputable def code : Code := bodyOf Tryz.f92
noncomputable def fe : FE := ⟨Tryz.f92, code, lv⟩
def cuts : List Nat := []
abbrev X (w0 : Base) (n : Nat) : XT := xr (cx w0) 10 lv n
def b0 (X : XT) (w0 : Base) (n : Nat) (R : RT) (σ : Store) (at_ : Int) (count : Int) : Prop :=
  pcodeX (cx w0) 10 lv n cuts X code 0 (argsE 0 [(.pv (.int .i64 at_)), (.pv (.int .i64 count))]) σ (finQ (cx w0) Tryz.f92 n R)
theorem b0_eq (X : XT) (w0 : Base) (n : Nat) (R : RT) (σ : Store) (at_ : Int) (count : Int) : b0 X w0 n R σ at_ count = (
  condB ((count : Int) == 0) (FinK (cx w0) n (.pv (.int .i64 at_)) σ R) (FinK (cx w0) n (.pv (.int .i64 (IntKind.wrap .i64 (at_ - 1)))) σ R)) := by kernel_rfl
theorem ok (w0 : Base) : FOK (cx w0) selvageref11_Place.id fe := ⟨Tryz.func92, by kernel_rfl, by kernel_rfl⟩
theorem calls {w0 : Base} {R : RT} {σ : Store} {at_ : Int} {count : Int} (h : b0 (X w0 (List.length σ)) w0 (List.length σ) R σ at_ count) : SCalls (cx w0) selvageref11_Place.id [(.pv (.int .i64 at_)), (.pv (.int .i64 count))] σ R :=
  xr_enter (cxOK w0) (x := fe) (S := cuts) (selvageref11_Place.ok w0) (by kernel_rfl) h
end selvageref11_Place
namespace selvageref11_InOrder
def lvs : List (List Nat) := [[0, 1], [0, 1], [2, 3], [2, 3], [4]]
def lv : Nat → List Nat := lvOf lvs
noncomputable def code : Code := bodyOf Tryz.f47
noncomputable def fe : FE := ⟨Tryz.f47, code, lv⟩
def cuts : List Nat := [4]
abbrev X (w0 : Base) (n : Nat) : XT := xr (cx w0) 35 lv n
def n4 (X : XT) (w0 : Base) (n : Nat) (R : RT) (σ : Store) (t4 : Bool) : Prop :=
  X (cAt code 4) 4 [(4, (.pv (.bool t4)))] σ (finQ (cx w0) Tryz.f47 n R)
def b4 (X : XT) (w0 : Base) (n : Nat) (R : RT) (σ : Store) (t4 : Bool) : Prop :=
  pcodeX (cx w0) 35 lv n cuts X (cAt code 4) 4 [(4, (.pv (.bool t4)))] σ (finQ (cx w0) Tryz.f47 n R)
def b0 (X : XT) (w0 : Base) (n : Nat) (R : RT) (σ : Store) (g : AV) (h_ : AV) : Prop :=
  pcodeX (cx w0) 35 lv n cuts X code 0 (argsE 0 [g, h_]) σ (finQ (cx w0) Tryz.f47 n R)
theorem b4_eq (X : XT) (w0 : Base) (n : Nat) (R : RT) (σ : Store) (t4 : Bool) : b4 X w0 n R σ t4 = (
  FinK (cx w0) n (.pv (.bool t4)) σ R) := by kernel_rfl
theorem n4_in {w0 : Base} {n : Nat} {R : RT} {σ : Store} {t4 : Bool} (h : b4 (X w0 n) w0 n R σ t4) : n4 (X w0 n) w0 n R σ t4 := xr_in (S := cuts) (by kernel_rfl) h
theorem b0_eq (X : XT) (w0 : Base) (n : Nat) (R : RT) (σ : Store) (g : AV) (h_ : AV) : b0 X w0 n R σ g h_ = (
  ((AV.cells g).all AV.one = true ∧ (((AV.cells h_).all AV.one = true ∧ (opt (aFieldAddr tabS ti39.td (.ptr (List.length (σ ++ [.cells 39 (AV.cells g)])) 0) 0) fun t5 => opt (aLoad ((σ ++ [.cells 39 (AV.cells g)]) ++ [.cells 39 (AV.cells h_)]) ti3 t5) fun t6 => isI .i64 t6 fun t6_1 => opt (aFieldAddr tabS ti39.td (.ptr (List.length (σ ++ [.cells 39 (AV.cells g)])) 0) 1) fun t7 => opt (aLoad ((σ ++ [.cells 39 (AV.cells g)]) ++ [.cells 39 (AV.cells h_)]) ti3 t7) fun t8 => isI .i64 t8 fun t8_1 => opt (aFieldAddr tabS ti39.td (.ptr (List.length σ) 0) 0) fun t10 => opt (aLoad ((σ ++ [.cells 39 (AV.cells g)]) ++ [.cells 39 (AV.cells h_)]) ti3 t10) fun t11 => isI .i64 t11 fun t11_1 => opt (aFieldAddr tabS ti39.td (.ptr (List.length σ) 0) 1) fun t12 => opt (aLoad ((σ ++ [.cells 39 (AV.cells g)]) ++ [.cells 39 (AV.cells h_)]) ti3 t12) fun t13 => isI .i64 t13 fun t13_1 => opt (aFieldAddr tabS ti39.td (.ptr (List.length σ) 0) 1) fun t15 => opt (aLoad ((σ ++ [.cells 39 (AV.cells g)]) ++ [.cells 39 (AV.cells h_)]) ti3 t15) fun t16 => isI .i64 t16 fun t16_1 => SCalls (cx w0) selvageref11_Place.id [(.pv (.int .i64 t6_1)), (.pv (.int .i64 t8_1))] ((σ ++ [.cells 39 (AV.cells g)]) ++ [.cells 39 (AV.cells h_)]) fun r σ' => isI .i64 r fun t9 => ((opt (aLoad σ' ti3 t10) fun t11_2 => ((t11_2 : AV) = (.pv (.int .i64 t11_1)))) ∧ (((opt (aLoad σ' ti3 t12) fun t13_2 => ((t13_2 : AV) = (.pv (.int .i64 t13_1)))) ∧ (((opt (aLoad σ' ti3 t15) fun t16_2 => ((t16_2 : AV) = (.pv (.int .i64 t16_1)))) ∧ (SCalls (cx w0) selvageref11_Place.id [(.pv (.int .i64 t11_1)), (.pv (.int .i64 t13_1))] σ' fun r_1 σ'_1 => isI .i64 r_1 fun t14 => ((opt (aLoad σ'_1 ti3 t15) fun t16_3 => ((t16_3 : AV) = (.pv (.int .i64 t16_1)))) ∧ (condB (decide ((t9 : Int) ≥ (IntKind.wrap .i64 (t14 + t16_1)))) (opt (aFieldAddr tabS ti39.td (.ptr (List.length (σ ++ [.cells 39 (AV.cells g)])) 0) 2) fun t20 => opt (aLoad σ'_1 ti3 t20) fun t21 => isI .i64 t21 fun t21_1 => opt (aFieldAddr tabS ti39.td (.ptr (List.length (σ ++ [.cells 39 (AV.cells g)])) 0) 3) fun t22 => opt (aLoad σ'_1 ti3 t22) fun t23 => isI .i64 t23 fun t23_1 => opt (aFieldAddr tabS ti39.td (.ptr (List.length σ) 0) 2) fun t25 => opt (aLoad σ'_1 ti3 t25) fun t26 => isI .i64 t26 fun t26_1 => opt (aFieldAddr tabS ti39.td (.ptr (List.length σ) 0) 3) fun t27 => opt (aLoad σ'_1 ti3 t27) fun t28 => isI .i64 t28 fun t28_1 => opt (aFieldAddr tabS ti39.td (.ptr (List.length σ) 0) 3) fun t30 => opt (aLoad σ'_1 ti3 t30) fun t31 => isI .i64 t31 fun t31_1 => SCalls (cx w0) selvageref11_Place.id [(.pv (.int .i64 t21_1)), (.pv (.int .i64 t23_1))] σ'_1 fun r_2 σ'_2 => isI .i64 r_2 fun t24 => ((opt (aLoad σ'_2 ti3 t25) fun t26_2 => ((t26_2 : AV) = (.pv (.int .i64 t26_1)))) ∧ (((opt (aLoad σ'_2 ti3 t27) fun t28_2 => ((t28_2 : AV) = (.pv (.int .i64 t28_1)))) ∧ (((opt (aLoad σ'_2 ti3 t30) fun t31_2 => ((t31_2 : AV) = (.pv (.int .i64 t31_1)))) ∧ (SCalls (cx w0) selvageref11_Place.id [(.pv (.int .i64 t26_1)), (.pv (.int .i64 t28_1))] σ'_2 fun r_3 σ'_3 => isI .i64 r_3 fun t29 => ((opt (aLoad σ'_3 ti3 t30) fun t31_3 => ((t31_3 : AV) = (.pv (.int .i64 t31_1)))) ∧ (n4 X w0 n R σ'_3 (decide ((t24 : Int) ≥ (IntKind.wrap .i64 (t29 + t31_1))))))))))))) (n4 X w0 n R σ'_1 false)))))))))))))) := by kernel_rfl
theorem ok (w0 : Base) : FOK (cx w0) selvageref11_InOrder.id fe := ⟨Tryz.func47, by kernel_rfl, by kernel_rfl⟩
theorem calls {w0 : Base} {R : RT} {σ : Store} {g : AV} {h_ : AV} (h : b0 (X w0 (List.length σ)) w0 (List.length σ) R σ g h_) : SCalls (cx w0) selvageref11_InOrder.id [g, h_] σ R :=
  xr_enter (cxOK w0) (x := fe) (S := cuts) (selvageref11_InOrder.ok w0) (by kernel_rfl) h
end selvageref11_InOrder
namespace selvageref11_Faults
def lvs : List (List Nat) := [[0, 1, 2], [0, 1, 2], [2, 3, 4], [2, 3, 4], [2, 3, 4], [2, 16], [], [], [6], [2], [2], [2], [2], [2, 7], [2, 7], [2, 7], [2, 7], [2, 7], [2, 7, 20], [2, 7], [2], [2, 7], [2, 7], [2, 7], [2, 7], [2, 7, 28], [], [], [6], [2, 7], [2, 7], [2], [2], [2], [2, 8], [2, 8], [2, 8], [2, 8], [2, 8], [2, 8, 32], [2, 8], [], [2, 8], [2, 8], [2, 8], [2, 8], [2, 8, 45], [], [], [6], [2, 8], [2, 8], [], [], [6]]
def lv : Nat → List Nat := lvOf lvs
noncomputable def code : Code := bodyOf Tryz.f20
noncomputable def fe : FE := ⟨Tryz.f20, code, lv⟩
def cuts : List Nat := [5, 15, 31, 36, 52]
abbrev X (w0 : Base) (n : Nat) : XT := xr (cx w0) 46 lv n
def q3 (X : XT) (w0 : Base) (n : Nat) (R : RT) : QT := thenQ (fun env σ => pcodeX (cx w0) 46 lv n cuts X (cAt code 10) 10 (prune (lv 10) env) σ (finQ (cx w0) Tryz.f20 n R)) (finQ (cx w0) Tryz.f20 n R)
def q11 (X : XT) (w0 : Base) (n : Nat) (R : RT) : QT := thenQ (fun env σ => X (cAt code 31) 31 (prune (lv 31) env) σ (finQ (cx w0) Tryz.f20 n R)) (finQ (cx w0) Tryz.f20 n R)
def q14 (X : XT) (w0 : Base) (n : Nat) (R : RT) : QT := blockQ 0 (q11 X w0 n R)
def q15 (X : XT) (w0 : Base) (n : Nat) (R : RT) : QT := thenQ (fun env σ => X (cAt code 14) 14 (prune (lv 14) env) σ (q14 X w0 n R)) (q14 X w0 n R)
def q32 (X : XT) (w0 : Base) (n : Nat) (R : RT) : QT := thenQ (fun env σ => X (cAt code 52) 52 (prune (lv 52) env) σ (finQ (cx w0) Tryz.f20 n R)) (finQ (cx w0) Tryz.f20 n R)
def q35 (X : XT) (w0 : Base) (n : Nat) (R : RT) : QT := blockQ 2 (q32 X w0 n R)
def q36 (X : XT) (w0 : Base) (n : Nat) (R : RT) : QT := thenQ (fun env σ => X (cAt code 35) 35 (prune (lv 35) env) σ (q35 X w0 n R)) (q35 X w0 n R)
def n5 (X : XT) (w0 : Base) (n : Nat) (R : RT) (σ : Store) (hunks : AV) (t16 : Bool) : Prop :=
  X (cAt code 5) 5 [(2, hunks), (16, (.pv (.bool t16)))] σ (q3 X w0 n R)
def b5 (X : XT) (w0 : Base) (n : Nat) (R : RT) (σ : Store) (hunks : AV) (t16 : Bool) : Prop :=
  pcodeX (cx w0) 46 lv n cuts X (cAt code 5) 5 [(2, hunks), (16, (.pv (.bool t16)))] σ (q3 X w0 n R)
def n14 (X : XT) (w0 : Base) (n : Nat) (R : RT) (σ : Store) (hunks : AV) (i : Int) : Prop :=
  X (cAt code 14) 14 [(2, hunks), (7, (.pv (.int .i64 i)))] σ (q14 X w0 n R)
def b15 (X : XT) (w0 : Base) (n : Nat) (R : RT) (σ : Store) (hunks : AV) (i : Int) : Prop :=
  pcodeX (cx w0) 46 lv n cuts X (cAt code 15) 15 [(2, hunks), (7, (.pv (.int .i64 i)))] σ (q15 X w0 n R)
def n31 (X : XT) (w0 : Base) (n : Nat) (R : RT) (σ : Store) (hunks : AV) : Prop :=
  X (cAt code 31) 31 [(2, hunks)] σ (finQ (cx w0) Tryz.f20 n R)
def b31 (X : XT) (w0 : Base) (n : Nat) (R : RT) (σ : Store) (hunks : AV) : Prop :=
  pcodeX (cx w0) 46 lv n cuts X (cAt code 31) 31 [(2, hunks)] σ (finQ (cx w0) Tryz.f20 n R)
def n35 (X : XT) (w0 : Base) (n : Nat) (R : RT) (σ : Store) (hunks : AV) (i : Int) : Prop :=
  X (cAt code 35) 35 [(2, hunks), (8, (.pv (.int .i64 i)))] σ (q35 X w0 n R)
def b36 (X : XT) (w0 : Base) (n : Nat) (R : RT) (σ : Store) (hunks : AV) (i : Int) : Prop :=
  pcodeX (cx w0) 46 lv n cuts X (cAt code 36) 36 [(2, hunks), (8, (.pv (.int .i64 i)))] σ (q36 X w0 n R)
def n52 (X : XT) (w0 : Base) (n : Nat) (R : RT) (σ : Store) : Prop :=
  X (cAt code 52) 52 [] σ (finQ (cx w0) Tryz.f20 n R)
def b52 (X : XT) (w0 : Base) (n : Nat) (R : RT) (σ : Store) : Prop :=
  pcodeX (cx w0) 46 lv n cuts X (cAt code 52) 52 [] σ (finQ (cx w0) Tryz.f20 n R)
def b0 (X : XT) (w0 : Base) (n : Nat) (R : RT) (σ : Store) (old : AV) (new_ : AV) (hunks : AV) : Prop :=
  pcodeX (cx w0) 46 lv n cuts X code 0 (argsE 0 [old, new_, hunks]) σ (finQ (cx w0) Tryz.f20 n R)
theorem b5_eq (X : XT) (w0 : Base) (n : Nat) (R : RT) (σ : Store) (hunks : AV) (t16 : Bool) : b5 X w0 n R σ hunks t16 = (
  condB t16 (FinK (cx w0) n (.pv (.int .i64 110)) σ R) (n14 X w0 n R σ hunks 0)) := by kernel_rfl
theorem n5_in {w0 : Base} {n : Nat} {R : RT} {σ : Store} {hunks : AV} {t16 : Bool} (h : b5 (X w0 n) w0 n R σ hunks t16) : n5 (X w0 n) w0 n R σ hunks t16 := xr_in (S := cuts) (by kernel_rfl) h
theorem n14_in {w0 : Base} {n : Nat} {R : RT} {σ : Store} {hunks : AV} {i : Int} (h : b15 (X w0 n) w0 n R σ hunks i) : n14 (X w0 n) w0 n R σ hunks i := xr_round (cxOK w0) (S := cuts) (by kernel_rfl : cAt code 14 = .loop (cAt code 15)) h
theorem b15_eq (X : XT) (w0 : Base) (n : Nat) (R : RT) (σ : Store) (hunks : AV) (i : Int) : b15 X w0 n R σ hunks i = (
  opt (aLen ti24.td hunks) fun t19 => isI .i64 t19 fun t19_1 => condB (decide ((i : Int) < t19_1)) (opt (aIndexAddr σ tabS ti24.td hunks i) fun t25 => opt (aLoad σ ti39 t25) fun t26 => SCalls (cx w0) selvageref10_Valid.id [t26] σ fun r σ' => isI .i64 r fun t27 => condB ((t27 : Int) != 0) (FinK (cx w0) n (.pv (.int .i64 100)) σ' R) (n14 X w0 n R σ' hunks (IntKind.wrap .i64 (i + 1)))) (n31 X w0 n R σ hunks)) := by kernel_rfl
theorem b31_eq (X : XT) (w0 : Base) (n : Nat) (R : RT) (σ : Store) (hunks : AV) : b31 X w0 n R σ hunks = (
  n35 X w0 n R σ hunks 1) := by kernel_rfl
theorem n31_in {w0 : Base} {n : Nat} {R : RT} {σ : Store} {hunks : AV} (h : b31 (X w0 n) w0 n R σ hunks) : n31 (X w0 n) w0 n R σ hunks := xr_in (S := cuts) (by kernel_rfl) h
theorem n35_in {w0 : Base} {n : Nat} {R : RT} {σ : Store} {hunks : AV} {i : Int} (h : b36 (X w0 n) w0 n R σ hunks i) : n35 (X w0 n) w0 n R σ hunks i := xr_round (cxOK w0) (S := cuts) (by kernel_rfl : cAt code 35 = .loop (cAt code 36)) h
theorem b36_eq (X : XT) (w0 : Base) (n : Nat) (R : RT) (σ : Store) (hunks : AV) (i : Int) : b36 X w0 n R σ hunks i = (
  opt (aLen ti24.td hunks) fun t31 => isI .i64 t31 fun t31_1 => condB (decide ((i : Int) < t31_1)) (opt (aIndexAddr σ tabS ti24.td hunks (IntKind.wrap .i64 (i - 1))) fun t38 => opt (aLoad σ ti39 t38) fun t39 => opt (aIndexAddr σ tabS ti24.td hunks i) fun t42 => opt (aLoad σ ti39 t42) fun t43 => SCalls (cx w0) selvageref11_InOrder.id [t39, t43] σ fun r σ' => isB r fun t44 => condB (!t44) (FinK (cx w0) n (.pv (.int .i64 112)) σ' R) (n35 X w0 n R σ' hunks (IntKind.wrap .i64 (i + 1)))) (n52 X w0 n R σ)) := by kernel_rfl
theorem b52_eq (X : XT) (w0 : Base) (n : Nat) (R : RT) (σ : Store) : b52 X w0 n R σ = (
  FinK (cx w0) n (.pv (.int .i64 0)) σ R) := by kernel_rfl
theorem n52_in {w0 : Base} {n : Nat} {R : RT} {σ : Store} (h : b52 (X w0 n) w0 n R σ) : n52 (X w0 n) w0 n R σ := xr_in (S := cuts) (by kernel_rfl) h
theorem b0_eq (X : XT) (w0 : Base) (n : Nat) (R : RT) (σ : Store) (old : AV) (new_ : AV) (hunks : AV) : b0 X w0 n R σ old new_ hunks = (
  ((AV.cells old).all AV.one = true ∧ (((AV.cells new_).all AV.one = true ∧ (opt (aLoad ((σ ++ [.cells 23 (AV.cells old)]) ++ [.cells 23 (AV.cells new_)]) ti23 (.ptr (List.length σ) 0)) fun t9 => SCalls (cx w0) selvageref11_NameOK.id [t9] ((σ ++ [.cells 23 (AV.cells old)]) ++ [.cells 23 (AV.cells new_)]) fun r σ' => isB r fun t10 => condB (!t10) (n5 X w0 n R σ' hunks true) (opt (aLoad σ' ti23 (.ptr (List.length (σ ++ [.cells 23 (AV.cells old)])) 0)) fun t13 => SCalls (cx w0) selvageref11_NameOK.id [t13] σ' fun r_1 σ'_1 => isB r_1 fun t14 => n5 X w0 n R σ'_1 hunks (!t14))))))) := by kernel_rfl
theorem ok (w0 : Base) : FOK (cx w0) selvageref11_Faults.id fe := ⟨Tryz.func20, by kernel_rfl, by kernel_rfl⟩
theorem calls {w0 : Base} {R : RT} {σ : Store} {old : AV} {new_ : AV} {hunks : AV} (h : b0 (X w0 (List.length σ)) w0 (List.length σ) R σ old new_ hunks) : SCalls (cx w0) selvageref11_Faults.id [old, new_, hunks] σ R :=
  xr_enter (cxOK w0) (x := fe) (S := cuts) (selvageref11_Faults.ok w0) (by kernel_rfl) h
end selvageref11_Faults
namespace selvageref11_Tail
def lvs : List (List Nat) := [[0], [0], [0], [0], [0], [0, 4], [0], [0], [2], [0], [0], [0], [2]]
def lv : Nat → List Nat := lvOf lvs
noncomputable def code : Code := bodyOf Tryz.f72
noncomputable def fe : FE := ⟨Tryz.f72, code, lv⟩
def cuts : List Nat := []
abbrev X (w0 : Base) (n : Nat) : XT := xr (cx w0) 9 lv n
def b0 (X : XT) (w0 : Base) (n : Nat) (R : RT) (σ : Store) (line : List UInt8) : Prop :=
  pcodeX (cx w0) 9 lv n cuts X code 0 (argsE 0 [(.pv (.str line))]) σ (finQ (cx w0) Tryz.f72 n R)
theorem b0_eq (X : XT) (w0 : Base) (n : Nat) (R : RT) (σ : Store) (line : List UInt8) : b0 X w0 n R σ line = (
  SCalls (cx w0) selvageref01_Whole.id [(.pv (.str line))] σ fun r σ' => isB r fun t4 => condB t4 (FinK (cx w0) n (.pv (.str line)) σ' R) ((List.length (line : List UInt8) + List.length ([10] : List UInt8) ≤ 9223372036854775807 ∧ ((List.length ((line ++ [10]) : List UInt8) + List.length ([92, 32, 78, 111, 32, 110, 101, 119, 108, 105, 110, 101, 32, 97, 116, 32, 101, 110, 100, 32, 111, 102, 32, 102, 105, 108, 101, 10] : List UInt8) ≤ 9223372036854775807 ∧ (FinK (cx w0) n (.pv (.str ((line ++ [10]) ++ [92, 32, 78, 111, 32, 110, 101, 119, 108, 105, 110, 101, 32, 97, 116, 32, 101, 110, 100, 32, 111, 102, 32, 102, 105, 108, 101, 10]))) σ' R)))))) := by kernel_rfl
theorem ok (w0 : Base) : FOK (cx w0) selvageref11_Tail.id fe := ⟨Tryz.func72, by kernel_rfl, by kernel_rfl⟩
theorem calls {w0 : Base} {R : RT} {σ : Store} {line : List UInt8} (h : b0 (X w0 (List.length σ)) w0 (List.length σ) R σ line) : SCalls (cx w0) selvageref11_Tail.id [(.pv (.str line))] σ R :=
  xr_enter (cxOK w0) (x := fe) (S := cuts) (selvageref11_Tail.ok w0) (by kernel_rfl) h
end selvageref11_Tail
namespace selvageref11_Digits
def lvs : List (List Nat) := [[0], [0], [0], [0], [0], [0, 4], [0], [0], [2], [0], [0], [0], [0], [0, 10], [0], [0], [2], [0], [0], [0], [2]]
def lv : Nat → List Nat := lvOf lvs
noncomputable def code : Code := bodyOf Tryz.f70
noncomputable def fe : FE := ⟨Tryz.f70, code, lv⟩
def cuts : List Nat := []
abbrev X (w0 : Base) (n : Nat) : XT := xr (cx w0) 25 lv n
def b0 (X : XT) (w0 : Base) (n : Nat) (R : RT) (σ : Store) (n_ : Int) : Prop :=
  pcodeX (cx w0) 25 lv n cuts X code 0 (argsE 0 [(.pv (.int .i64 n_))]) σ (finQ (cx w0) Tryz.f70 n R)
theorem b0_eq (X : XT) (w0 : Base) (n : Nat) (R : RT) (σ : Store) (n_ : Int) : b0 X w0 n R σ n_ = (
  condB (decide ((n_ : Int) < 0)) (SCalls (cx w0) selvageref11_Digits.id [(.pv (.int .i64 (IntKind.wrap .i64 (0 - n_))))] σ fun r σ' => isS r fun t7 => (List.length ([45] : List UInt8) + List.length (t7 : List UInt8) ≤ 9223372036854775807 ∧ (FinK (cx w0) n (.pv (.str ([45] ++ t7))) σ' R))) (condB (decide ((n_ : Int) < 10)) (opt (aSlice σ tabS ti9.td (.pv (.str [48, 49, 50, 51, 52, 53, 54, 55, 56, 57])) (some (.pv (.int .i64 n_))) (some (.pv (.int .i64 (IntKind.wrap .i64 (n_ + 1)))))) fun t14 => isS t14 fun t14_1 => FinK (cx w0) n (.pv (.str t14_1)) σ R) (((10 : Int) ≠ 0 ∧ (((10 : Int) ≠ 0 ∧ (((10 : Int) ≠ 0 ∧ (opt (aSlice σ tabS ti9.td (.pv (.str [48, 49, 50, 51, 52, 53, 54, 55, 56, 57])) (some (.pv (.int .i64 (Int.tmod n_ 10)))) (some (.pv (.int .i64 (IntKind.wrap .i64 ((Int.tmod n_ 10) + 1)))))) fun t23 => isS t23 fun t23_1 => SCalls (cx w0) selvageref11_Digits.id [(.pv (.int .i64 (IntKind.wrap .i64 (Int.tdiv n_ 10))))] σ fun r σ' => isS r fun t17 => ((opt (aSlice σ' tabS ti9.td (.pv (.str [48, 49, 50, 51, 52, 53, 54, 55, 56, 57])) (some (.pv (.int .i64 (Int.tmod n_ 10)))) (some (.pv (.int .i64 (IntKind.wrap .i64 ((Int.tmod n_ 10) + 1)))))) fun t23_2 => ((t23_2 : AV) = (.pv (.str t23_1)))) ∧ ((List.length (t17 : List UInt8) + List.length (t23_1 : List UInt8) ≤ 9223372036854775807 ∧ (FinK (cx w0) n (.pv (.str (t17 ++ t23_1))) σ' R))))))))))))) := by kernel_rfl
theorem ok (w0 : Base) : FOK (cx w0) selvageref11_Digits.id fe := ⟨Tryz.func70, by kernel_rfl, by kernel_rfl⟩
theorem calls {w0 : Base} {R : RT} {σ : Store} {n_ : Int} (h : b0 (X w0 (List.length σ)) w0 (List.length σ) R σ n_) : SCalls (cx w0) selvageref11_Digits.id [(.pv (.int .i64 n_))] σ R :=
  xr_enter (cxOK w0) (x := fe) (S := cuts) (selvageref11_Digits.ok w0) (by kernel_rfl) h
end selvageref11_Digits
end Go.Sv
