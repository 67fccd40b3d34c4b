/- What the code of Go functions comes to over abstract stores, piece by piece; each equation by the kernel. Printed by a program of this session. -/
import Derived.Test.YtjonnhjaiiingaaGreatDoorSvT
import Derived.KernelRfl
set_option linter.unusedVariables false
set_option maxRecDepth 100000
namespace Go.Sv
open Go Go.Proofs
namespace selvagelaw11_num
def lvs : List (List Nat) := [[0], [0], [0], [0], [0, 3], [0, 3], [0, 3], [0, 3, 5], [], [], [2], [0, 3], [0, 3], [0, 3], [0, 3], [3, 8], [3], [3], [2], [], [], [], [2]]
def lv : Nat → List Nat := lvOf lvs
noncomputable def code : Code := bodyOf Tryz.f9
noncomputable def fe : FE := ⟨Tryz.f9, code, lv⟩
theorem ok (w0 : Base) : FOK (cx w0) selvagelaw11_num.id fe := ⟨Tryz.func9, by kernel_rfl, by kernel_rfl⟩
end selvagelaw11_num
namespace selvagelaw11_sameHunks
def lvs : List (List Nat) := [[0, 1], [0, 1], [0, 1], [0, 1], [0, 1], [0, 1, 13], [], [], [4], [0, 1], [0, 1], [0, 1], [0, 1], [0, 1, 5], [0, 1, 5], [0, 1, 5], [0, 1, 5], [0, 1, 5], [0, 1, 5, 17], [0, 1, 5], [], [0, 1, 5], [0, 1, 5], [0, 1, 5], [0, 1, 5], [0, 1, 5, 6, 7], [0, 1, 5, 6, 7], [0, 1, 5, 6, 7], [0, 1, 5, 6, 7, 69], [], [], [4], [0, 1, 5, 6, 7], [0, 1, 5, 6, 7], [0, 1, 5, 6, 7], [0, 1, 5, 6, 7, 8], [0, 1, 5, 6, 7, 8], [0, 1, 5, 6, 7, 8], [0, 1, 5, 6, 7, 8], [0, 1, 5, 6, 7, 8], [0, 1, 5, 6, 7, 8, 74], [0, 1, 5, 6, 7, 8], [0, 1, 5], [0, 1, 5, 6, 7, 8], [0, 1, 5, 6, 7, 8], [0, 1, 5, 6, 7, 8], [0, 1, 5, 6, 7, 8], [0, 1, 5, 6, 7, 8, 87], [], [], [4], [0, 1, 5, 6, 7, 8], [0, 1, 5, 6, 7, 8], [0, 1, 5], [], [], [4]]
def lv : Nat → List Nat := lvOf lvs
noncomputable def code : Code := bodyOf Tryz.f10
noncomputable def fe : FE := ⟨Tryz.f10, code, lv⟩
def cuts : List Nat := [15, 28, 37, 53, 54]
abbrev X (w0 : Base) (n : Nat) : XT := xr (cx w0) 88 lv n
def q11 (X : XT) (w0 : Base) (n : Nat) (R : RT) : QT := thenQ (fun env σ => X (cAt code 54) 54 (prune (lv 54) env) σ (finQ (cx w0) Tryz.f10 n R)) (finQ (cx w0) Tryz.f10 n R)
def q14 (X : XT) (w0 : Base) (n : Nat) (R : RT) : QT := blockQ 0 (q11 X w0 n R)
def q15 (X : XT) (w0 : Base) (n : Nat) (R : RT) : QT := thenQ (fun env σ => X (cAt code 14) 14 (prune (lv 14) env) σ (q14 X w0 n R)) (q14 X w0 n R)
def q22 (X : XT) (w0 : Base) (n : Nat) (R : RT) : QT := thenQ (fun env σ => X (cAt code 53) 53 (prune (lv 53) env) σ (q15 X w0 n R)) (q15 X w0 n R)
def q23 (X : XT) (w0 : Base) (n : Nat) (R : RT) : QT := blockQ 1 (q22 X w0 n R)
def q26 (X : XT) (w0 : Base) (n : Nat) (R : RT) : QT := thenQ (fun env σ => pcodeX (cx w0) 88 lv n cuts X (cAt code 33) 33 (prune (lv 33) env) σ (q23 X w0 n R)) (q23 X w0 n R)
def q36 (X : XT) (w0 : Base) (n : Nat) (R : RT) : QT := blockQ 2 (q23 X w0 n R)
def q37 (X : XT) (w0 : Base) (n : Nat) (R : RT) : QT := thenQ (fun env σ => X (cAt code 36) 36 (prune (lv 36) env) σ (q36 X w0 n R)) (q36 X w0 n R)
def n14 (X : XT) (w0 : Base) (n : Nat) (R : RT) (σ : Store) (a : AV) (b : AV) (i : Int) : Prop :=
  X (cAt code 14) 14 [(0, a), (1, b), (5, (.pv (.int .i64 i)))] σ (q14 X w0 n R)
def b15 (X : XT) (w0 : Base) (n : Nat) (R : RT) (σ : Store) (a : AV) (b : AV) (i : Int) : Prop :=
  pcodeX (cx w0) 88 lv n cuts X (cAt code 15) 15 [(0, a), (1, b), (5, (.pv (.int .i64 i)))] σ (q15 X w0 n R)
def n28 (X : XT) (w0 : Base) (n : Nat) (R : RT) (σ : Store) (a : AV) (b : AV) (i : Int) (x : AV) (y : AV) (t69 : Bool) : Prop :=
  X (cAt code 28) 28 [(0, a), (1, b), (5, (.pv (.int .i64 i))), (6, x), (7, y), (69, (.pv (.bool t69)))] σ (q26 X w0 n R)
def b28 (X : XT) (w0 : Base) (n : Nat) (R : RT) (σ : Store) (a : AV) (b : AV) (i : Int) (x : AV) (y : AV) (t69 : Bool) : Prop :=
  pcodeX (cx w0) 88 lv n cuts X (cAt code 28) 28 [(0, a), (1, b), (5, (.pv (.int .i64 i))), (6, x), (7, y), (69, (.pv (.bool t69)))] σ (q26 X w0 n R)
def n36 (X : XT) (w0 : Base) (n : Nat) (R : RT) (σ : Store) (a : AV) (b : AV) (i : Int) (x : AV) (y : AV) (k : Int) : Prop :=
  X (cAt code 36) 36 [(0, a), (1, b), (5, (.pv (.int .i64 i))), (6, x), (7, y), (8, (.pv (.int .i64 k)))] σ (q36 X w0 n R)
def b37 (X : XT) (w0 : Base) (n : Nat) (R : RT) (σ : Store) (a : AV) (b : AV) (i : Int) (x : AV) (y : AV) (k : Int) : Prop :=
  pcodeX (cx w0) 88 lv n cuts X (cAt code 37) 37 [(0, a), (1, b), (5, (.pv (.int .i64 i))), (6, x), (7, y), (8, (.pv (.int .i64 k)))] σ (q37 X w0 n R)
def n53 (X : XT) (w0 : Base) (n : Nat) (R : RT) (σ : Store) (a : AV) (b : AV) (i : Int) : Prop :=
  X (cAt code 53) 53 [(0, a), (1, b), (5, (.pv (.int .i64 i)))] σ (q15 X w0 n R)
def b53 (X : XT) (w0 : Base) (n : Nat) (R : RT) (σ : Store) (a : AV) (b : AV) (i : Int) : Prop :=
  pcodeX (cx w0) 88 lv n cuts X (cAt code 53) 53 [(0, a), (1, b), (5, (.pv (.int .i64 i)))] σ (q15 X w0 n R)
def n54 (X : XT) (w0 : Base) (n : Nat) (R : RT) (σ : Store) : Prop :=
  X (cAt code 54) 54 [] σ (finQ (cx w0) Tryz.f10 n R)
def b54 (X : XT) (w0 : Base) (n : Nat) (R : RT) (σ : Store) : Prop :=
  pcodeX (cx w0) 88 lv n cuts X (cAt code 54) 54 [] σ (finQ (cx w0) Tryz.f10 n R)
def b0 (X : XT) (w0 : Base) (n : Nat) (R : RT) (σ : Store) (a : AV) (b : AV) : Prop :=
  pcodeX (cx w0) 88 lv n cuts X code 0 (argsE 0 [a, b]) σ (finQ (cx w0) Tryz.f10 n R)
theorem n14_in {w0 : Base} {n : Nat} {R : RT} {σ : Store} {a : AV} {b : AV} {i : Int} (h : b15 (X w0 n) w0 n R σ a b i) : n14 (X w0 n) w0 n R σ a b i := xr_round (cxOK w0) (S := cuts) (by kernel_rfl : cAt code 14 = .loop (cAt code 15)) h
theorem n14_weak {w0 : Base} {n : Nat} {R : RT} {σ τ : Store} {a : AV} {b : AV} {i : Int} {a' : AV} {b' : AV} {i' : Int} (e : EWeak (cx w0) n [(0, a), (1, b), (5, (.pv (.int .i64 i)))] σ [(0, a'), (1, b'), (5, (.pv (.int .i64 i')))] τ) (h : n14 (X w0 n) w0 n R τ a' b' i') : n14 (X w0 n) w0 n R σ a b i := xr_weak (L := lv) (k := 14) (by kernel_rfl : cAt code 14 = .loop (cAt code 15)) e h
theorem b15_eq (X : XT) (w0 : Base) (n : Nat) (R : RT) (σ : Store) (a : AV) (b : AV) (i : Int) : b15 X w0 n R σ a b i = (
  opt (aLen ti24.td a) fun t16 => isI .i64 t16 fun t16_1 => condB (decide ((i : Int) < t16_1)) (opt (aIndexAddr σ tabS ti24.td a i) fun t22 => opt (aLoad σ ti37 t22) fun t23 => opt (aIndexAddr σ tabS ti24.td b i) fun t26 => opt (aLoad σ ti37 t26) fun t27 => opt (aStore (σ ++ [.cells 37 (AV.ofValue ti37.zero).cells, .cells 37 (AV.ofValue ti37.zero).cells]) ti37 (.ptr (List.length σ + 0) 0) t23) fun σ' => ((opt (aIndexAddr σ' tabS ti24.td b i) fun t26_1 => ((t26_1 : AV) = t26)) ∧ (((opt (aLoad σ' ti37 t26) fun t27_1 => ((t27_1 : AV) = t27)) ∧ (opt (aStore σ' ti37 (.ptr (List.length σ + 1) 0) t27) fun σ'_1 => opt (aFieldAddr tabS ti37.td (.ptr (List.length σ + 0) 0) 0) fun t28 => opt (aLoad σ'_1 ti3 t28) fun t29 => isI .i64 t29 fun t29_1 => opt (aFieldAddr tabS ti37.td (.ptr (List.length σ + 1) 0) 0) fun t30 => opt (aLoad σ'_1 ti3 t30) fun t31 => isI .i64 t31 fun t31_1 => condB ((t29_1 : Int) != t31_1) (n28 X w0 n R σ'_1 a b i (.ptr (List.length σ + 0) 0) (.ptr (List.length σ + 1) 0) true) (opt (aFieldAddr tabS ti37.td (.ptr (List.length σ + 0) 0) 1) fun t34 => opt (aLoad σ'_1 ti3 t34) fun t35 => isI .i64 t35 fun t35_1 => opt (aFieldAddr tabS ti37.td (.ptr (List.length σ + 1) 0) 1) fun t36 => opt (aLoad σ'_1 ti3 t36) fun t37 => isI .i64 t37 fun t37_1 => condB ((t35_1 : Int) != t37_1) (n28 X w0 n R σ'_1 a b i (.ptr (List.length σ + 0) 0) (.ptr (List.length σ + 1) 0) true) (opt (aFieldAddr tabS ti37.td (.ptr (List.length σ + 0) 0) 2) fun t41 => opt (aLoad σ'_1 ti3 t41) fun t42 => isI .i64 t42 fun t42_1 => opt (aFieldAddr tabS ti37.td (.ptr (List.length σ + 1) 0) 2) fun t43 => opt (aLoad σ'_1 ti3 t43) fun t44 => isI .i64 t44 fun t44_1 => condB ((t42_1 : Int) != t44_1) (n28 X w0 n R σ'_1 a b i (.ptr (List.length σ + 0) 0) (.ptr (List.length σ + 1) 0) true) (opt (aFieldAddr tabS ti37.td (.ptr (List.length σ + 0) 0) 3) fun t48 => opt (aLoad σ'_1 ti3 t48) fun t49 => isI .i64 t49 fun t49_1 => opt (aFieldAddr tabS ti37.td (.ptr (List.length σ + 1) 0) 3) fun t50 => opt (aLoad σ'_1 ti3 t50) fun t51 => isI .i64 t51 fun t51_1 => condB ((t49_1 : Int) != t51_1) (n28 X w0 n R σ'_1 a b i (.ptr (List.length σ + 0) 0) (.ptr (List.length σ + 1) 0) true) (opt (aFieldAddr tabS ti37.td (.ptr (List.length σ + 0) 0) 4) fun t55 => opt (aLoad σ'_1 ti9 t55) fun t56 => isS t56 fun t56_1 => opt (aFieldAddr tabS ti37.td (.ptr (List.length σ + 1) 0) 4) fun t57 => opt (aLoad σ'_1 ti9 t57) fun t58 => isS t58 fun t58_1 => condB (!((t56_1 : List UInt8) == t58_1)) (n28 X w0 n R σ'_1 a b i (.ptr (List.length σ + 0) 0) (.ptr (List.length σ + 1) 0) true) (opt (aFieldAddr tabS ti37.td (.ptr (List.length σ + 0) 0) 5) fun t62 => opt (aLoad σ'_1 ti35 t62) fun t63 => opt (aLen ti35.td t63) fun t64 => isI .i64 t64 fun t64_1 => opt (aFieldAddr tabS ti37.td (.ptr (List.length σ + 1) 0) 5) fun t65 => opt (aLoad σ'_1 ti35 t65) fun t66 => opt (aLen ti35.td t66) fun t67 => isI .i64 t67 fun t67_1 => n28 X w0 n R σ'_1 a b i (.ptr (List.length σ + 0) 0) (.ptr (List.length σ + 1) 0) ((t64_1 : Int) != t67_1))))))))))) (n54 X w0 n R σ)) := by kernel_rfl
theorem b28_eq (X : XT) (w0 : Base) (n : Nat) (R : RT) (σ : Store) (a : AV) (b : AV) (i : Int) (x : AV) (y : AV) (t69 : Bool) : b28 X w0 n R σ a b i x y t69 = (
  condB t69 (FinK (cx w0) n (.pv (.bool false)) σ R) (n36 X w0 n R σ a b i x y 0)) := by kernel_rfl
theorem n28_in {w0 : Base} {n : Nat} {R : RT} {σ : Store} {a : AV} {b : AV} {i : Int} {x : AV} {y : AV} {t69 : Bool} (h : b28 (X w0 n) w0 n R σ a b i x y t69) : n28 (X w0 n) w0 n R σ a b i x y t69 := xr_in (S := cuts) (by kernel_rfl) h
theorem n36_in {w0 : Base} {n : Nat} {R : RT} {σ : Store} {a : AV} {b : AV} {i : Int} {x : AV} {y : AV} {k : Int} (h : b37 (X w0 n) w0 n R σ a b i x y k) : n36 (X w0 n) w0 n R σ a b i x y k := xr_round (cxOK w0) (S := cuts) (by kernel_rfl : cAt code 36 = .loop (cAt code 37)) h
theorem b37_eq (X : XT) (w0 : Base) (n : Nat) (R : RT) (σ : Store) (a : AV) (b : AV) (i : Int) (x : AV) (y : AV) (k : Int) : b37 X w0 n R σ a b i x y k = (
  opt (aFieldAddr tabS ti37.td x 5) fun t71 => opt (aLoad σ ti35 t71) fun t72 => opt (aLen ti35.td t72) fun t73 => isI .i64 t73 fun t73_1 => condB (decide ((k : Int) < t73_1)) (opt (aFieldAddr tabS ti37.td x 5) fun t77 => opt (aLoad σ ti35 t77) fun t78 => opt (aIndexAddr σ tabS ti35.td t78 k) fun t80 => opt (aLoad σ ti65 t80) fun t81 => opt (aFieldAddr tabS ti37.td y 5) fun t82 => opt (aLoad σ ti35 t82) fun t83 => opt (aIndexAddr σ tabS ti35.td t83 k) fun t85 => opt (aLoad σ ti65 t85) fun t86 => aBinK tabS 65 false .neq t81 t86 fun v => isB v fun b_1 => condB b_1 (FinK (cx w0) n (.pv (.bool false)) σ R) (n36 X w0 n R σ a b i x y (IntKind.wrap .i64 (k + 1)))) (n53 X w0 n R σ a b i)) := by kernel_rfl
theorem b53_eq (X : XT) (w0 : Base) (n : Nat) (R : RT) (σ : Store) (a : AV) (b : AV) (i : Int) : b53 X w0 n R σ a b i = (
  n14 X w0 n R σ a b (IntKind.wrap .i64 (i + 1))) := by kernel_rfl
theorem n53_in {w0 : Base} {n : Nat} {R : RT} {σ : Store} {a : AV} {b : AV} {i : Int} (h : b53 (X w0 n) w0 n R σ a b i) : n53 (X w0 n) w0 n R σ a b i := xr_in (S := cuts) (by kernel_rfl) h
theorem b54_eq (X : XT) (w0 : Base) (n : Nat) (R : RT) (σ : Store) : b54 X w0 n R σ = (
  FinK (cx w0) n (.pv (.bool true)) σ R) := by kernel_rfl
theorem n54_in {w0 : Base} {n : Nat} {R : RT} {σ : Store} (h : b54 (X w0 n) w0 n R σ) : n54 (X w0 n) w0 n R σ := xr_in (S := cuts) (by kernel_rfl) h
theorem b0_eq (X : XT) (w0 : Base) (n : Nat) (R : RT) (σ : Store) (a : AV) (b : AV) : b0 X w0 n R σ a b = (
  opt (aLen ti24.td a) fun t10 => isI .i64 t10 fun t10_1 => opt (aLen ti24.td b) fun t12 => isI .i64 t12 fun t12_1 => condB ((t10_1 : Int) != t12_1) (FinK (cx w0) n (.pv (.bool false)) σ R) (n14 X w0 n R σ a b 0)) := by kernel_rfl
theorem ok (w0 : Base) : FOK (cx w0) selvagelaw11_sameHunks.id fe := ⟨Tryz.func10, by kernel_rfl, by kernel_rfl⟩
theorem calls {w0 : Base} {R : RT} {σ : Store} {a : AV} {b : AV} (h : b0 (X w0 (List.length σ)) w0 (List.length σ) R σ a b) : SCalls (cx w0) selvagelaw11_sameHunks.id [a, b] σ R :=
  xr_enter (cxOK w0) (x := fe) (S := cuts) (selvagelaw11_sameHunks.ok w0) (by kernel_rfl) h
end selvagelaw11_sameHunks
namespace selvagelaw11_twin
end selvagelaw11_twin
namespace selvagelaw11_UnifiedPrints
end selvagelaw11_UnifiedPrints
end Go.Sv
