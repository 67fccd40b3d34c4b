/- What the code of Go functions comes to over abstract stores, piece by piece; each equation by the kernel. Printed by a program of this session. -/
import Derived.Test.YtjonnhjaiiingaaGreatDoorSvT
import Derived.KernelRfl
set_option linter.unusedVariables false
set_option maxRecDepth 100000
namespace Go.Sv
open Go Go.Proofs
namespace selvagelaw11_UnifiedBack
end selvagelaw11_UnifiedBack
namespace selvagelaw11_UnifiedRest
def lvs : List (List Nat) := [[0, 1], [0, 1], [0, 1], [0, 1], [0, 1, 5, 6, 7, 8, 10], [0, 1, 5, 6, 7, 8, 10], [0, 1, 5, 6, 7, 8, 10], [0, 1, 5, 6, 7, 49], [], [], [4], [0, 1, 5, 6, 7], [0, 1, 5, 6, 7], [0, 1, 5, 6, 7], [0, 1, 5, 6, 7], [0, 1, 5, 6, 7, 51, 52, 53], [0, 1, 5, 6, 7, 51, 52, 53], [0, 1, 5, 6, 7, 51, 52, 53], [0, 1, 5, 6, 7, 51, 52, 53], [0, 1, 5, 6, 7, 51, 52, 53, 54], [0, 1, 5, 6, 7, 51, 52, 53, 54], [0, 1, 5, 6, 7, 51, 52, 53], [0, 1, 5, 6, 7], [0, 1, 5, 6, 7, 51, 52, 53], [0, 1, 5, 6, 7, 51, 52, 53], [0, 1, 5, 6, 7, 51, 52, 53], [0, 1, 5, 6, 7, 51, 52, 53], [0, 1, 5, 6, 7, 12, 51, 52, 53], [0, 1, 5, 6, 7, 12, 51, 52, 53], [0, 1, 5, 6, 7, 51, 52, 53, 69], [], [], [4], [0, 1, 5, 6, 7, 51, 52, 53], [0, 1, 5, 6, 7, 51, 52, 53], [0, 1, 5, 6, 7], [0, 1, 5, 6, 7], [1, 5, 6, 7, 13, 14, 15, 16, 18], [1, 5, 6, 7, 13, 14, 15, 16, 18], [4]]
def lv : Nat → List Nat := lvOf lvs
noncomputable def code : Code := bodyOf Tryz.f5
noncomputable def fe : FE := ⟨Tryz.f5, code, lv⟩
def cuts : List Nat := [7, 17, 29, 35, 39]
abbrev X (w0 : Base) (n : Nat) : XT := xr (cx w0) 108 lv n
def q5 (X : XT) (w0 : Base) (n : Nat) (R : RT) : QT := thenQ (fun env σ => pcodeX (cx w0) 108 lv n cuts X (cAt code 12) 12 (prune (lv 12) env) σ (finQ (cx w0) Tryz.f5 n R)) (finQ (cx w0) Tryz.f5 n R)
def q13 (X : XT) (w0 : Base) (n : Nat) (R : RT) : QT := thenQ (fun env σ => X (cAt code 35) 35 (prune (lv 35) env) σ (finQ (cx w0) Tryz.f5 n R)) (finQ (cx w0) Tryz.f5 n R)
def q16 (X : XT) (w0 : Base) (n : Nat) (R : RT) : QT := blockQ 0 (q13 X w0 n R)
def q17 (X : XT) (w0 : Base) (n : Nat) (R : RT) : QT := thenQ (fun env σ => X (cAt code 16) 16 (prune (lv 16) env) σ (q16 X w0 n R)) (q16 X w0 n R)
def q24 (X : XT) (w0 : Base) (n : Nat) (R : RT) : QT := thenQ (fun env σ => pcodeX (cx w0) 108 lv n cuts X (cAt code 34) 34 (prune (lv 34) env) σ (q17 X w0 n R)) (q17 X w0 n R)
def q25 (X : XT) (w0 : Base) (n : Nat) (R : RT) : QT := blockQ 1 (q24 X w0 n R)
def n7 (X : XT) (w0 : Base) (n : Nat) (R : RT) (σ : Store) (s : List UInt8) (behind : List UInt8) (a : AV) (b : AV) (l_ : AV) (t49 : Bool) : Prop :=
  X (cAt code 7) 7 [(0, (.pv (.str s))), (1, (.pv (.str behind))), (5, a), (6, b), (7, l_), (49, (.pv (.bool t49)))] σ (q5 X w0 n R)
def b7 (X : XT) (w0 : Base) (n : Nat) (R : RT) (σ : Store) (s : List UInt8) (behind : List UInt8) (a : AV) (b : AV) (l_ : AV) (t49 : Bool) : Prop :=
  pcodeX (cx w0) 108 lv n cuts X (cAt code 7) 7 [(0, (.pv (.str s))), (1, (.pv (.str behind))), (5, a), (6, b), (7, l_), (49, (.pv (.bool t49)))] σ (q5 X w0 n R)
def n16 (X : XT) (w0 : Base) (n : Nat) (R : RT) (σ : Store) (s : List UInt8) (behind : List UInt8) (a : AV) (b : AV) (l_ : AV) (t51 : AV) (t52 : Int) (t53 : Int) : Prop :=
  X (cAt code 16) 16 [(0, (.pv (.str s))), (1, (.pv (.str behind))), (5, a), (6, b), (7, l_), (51, t51), (52, (.pv (.int .i64 t52))), (53, (.pv (.int .i64 t53)))] σ (q16 X w0 n R)
def b17 (X : XT) (w0 : Base) (n : Nat) (R : RT) (σ : Store) (s : List UInt8) (behind : List UInt8) (a : AV) (b : AV) (l_ : AV) (t51 : AV) (t52 : Int) (t53 : Int) : Prop :=
  pcodeX (cx w0) 108 lv n cuts X (cAt code 17) 17 [(0, (.pv (.str s))), (1, (.pv (.str behind))), (5, a), (6, b), (7, l_), (51, t51), (52, (.pv (.int .i64 t52))), (53, (.pv (.int .i64 t53)))] σ (q17 X w0 n R)
def n29 (X : XT) (w0 : Base) (n : Nat) (R : RT) (σ : Store) (s : List UInt8) (behind : List UInt8) (a : AV) (b : AV) (l_ : AV) (t51 : AV) (t52 : Int) (t53 : Int) (t69 : Bool) : Prop :=
  X (cAt code 29) 29 [(0, (.pv (.str s))), (1, (.pv (.str behind))), (5, a), (6, b), (7, l_), (51, t51), (52, (.pv (.int .i64 t52))), (53, (.pv (.int .i64 t53))), (69, (.pv (.bool t69)))] σ (q25 X w0 n R)
def b29 (X : XT) (w0 : Base) (n : Nat) (R : RT) (σ : Store) (s : List UInt8) (behind : List UInt8) (a : AV) (b : AV) (l_ : AV) (t51 : AV) (t52 : Int) (t53 : Int) (t69 : Bool) : Prop :=
  pcodeX (cx w0) 108 lv n cuts X (cAt code 29) 29 [(0, (.pv (.str s))), (1, (.pv (.str behind))), (5, a), (6, b), (7, l_), (51, t51), (52, (.pv (.int .i64 t52))), (53, (.pv (.int .i64 t53))), (69, (.pv (.bool t69)))] σ (q25 X w0 n R)
def n35 (X : XT) (w0 : Base) (n : Nat) (R : RT) (σ : Store) (s : List UInt8) (behind : List UInt8) (a : AV) (b : AV) (l_ : AV) : Prop :=
  X (cAt code 35) 35 [(0, (.pv (.str s))), (1, (.pv (.str behind))), (5, a), (6, b), (7, l_)] σ (finQ (cx w0) Tryz.f5 n R)
def b35 (X : XT) (w0 : Base) (n : Nat) (R : RT) (σ : Store) (s : List UInt8) (behind : List UInt8) (a : AV) (b : AV) (l_ : AV) : Prop :=
  pcodeX (cx w0) 108 lv n cuts X (cAt code 35) 35 [(0, (.pv (.str s))), (1, (.pv (.str behind))), (5, a), (6, b), (7, l_)] σ (finQ (cx w0) Tryz.f5 n R)
def n39 (X : XT) (w0 : Base) (n : Nat) (R : RT) (σ : Store) (t4 : Bool) : Prop :=
  X (cAt code 39) 39 [(4, (.pv (.bool t4)))] σ (finQ (cx w0) Tryz.f5 n R)
def b39 (X : XT) (w0 : Base) (n : Nat) (R : RT) (σ : Store) (t4 : Bool) : Prop :=
  pcodeX (cx w0) 108 lv n cuts X (cAt code 39) 39 [(4, (.pv (.bool t4)))] σ (finQ (cx w0) Tryz.f5 n R)
def b0 (X : XT) (w0 : Base) (n : Nat) (R : RT) (σ : Store) (s : List UInt8) (behind : List UInt8) : Prop :=
  pcodeX (cx w0) 108 lv n cuts X code 0 (argsE 0 [(.pv (.str s)), (.pv (.str behind))]) σ (finQ (cx w0) Tryz.f5 n R)
theorem b7_eq (X : XT) (w0 : Base) (n : Nat) (R : RT) (σ : Store) (s : List UInt8) (behind : List UInt8) (a : AV) (b : AV) (l_ : AV) (t49 : Bool) : b7 X w0 n R σ s behind a b l_ t49 = (
  condB t49 (SCalls (cx w0) selvagelaw11_sure.id [] σ fun r σ' => isB r fun t50 => FinK (cx w0) n (.pv (.bool t50)) σ' R) (opt2 (aBuildSlice σ ti9 false 2 [(0, (.pv (.str [64, 64, 32, 45]))), (1, (.pv (.str [92])))]) fun t51 σ' => opt (aLen ti46.td t51) fun t52 => isI .i64 t52 fun t52_1 => n16 X w0 n R σ' s behind a b l_ t51 t52_1 0)) := by kernel_rfl
theorem n7_in {w0 : Base} {n : Nat} {R : RT} {σ : Store} {s : List UInt8} {behind : List UInt8} {a : AV} {b : AV} {l_ : AV} {t49 : Bool} (h : b7 (X w0 n) w0 n R σ s behind a b l_ t49) : n7 (X w0 n) w0 n R σ s behind a b l_ t49 := xr_in (S := cuts) (by kernel_rfl) h
theorem n16_in {w0 : Base} {n : Nat} {R : RT} {σ : Store} {s : List UInt8} {behind : List UInt8} {a : AV} {b : AV} {l_ : AV} {t51 : AV} {t52 : Int} {t53 : Int} (h : b17 (X w0 n) w0 n R σ s behind a b l_ t51 t52 t53) : n16 (X w0 n) w0 n R σ s behind a b l_ t51 t52 t53 := xr_round (cxOK w0) (S := cuts) (by kernel_rfl : cAt code 16 = .loop (cAt code 17)) h
theorem b17_eq (X : XT) (w0 : Base) (n : Nat) (R : RT) (σ : Store) (s : List UInt8) (behind : List UInt8) (a : AV) (b : AV) (l_ : AV) (t51 : AV) (t52 : Int) (t53 : Int) : b17 X w0 n R σ s behind a b l_ t51 t52 t53 = (
  condB (decide ((t53 : Int) < t52)) (opt (aIndexAddr σ tabS ti46.td t51 t53) fun t55 => opt (aLoad σ ti9 t55) fun t56 => isS t56 fun t56_1 => condB (decide (((List.length (behind : List UInt8) : Int) : Int) ≥ (List.length (t56_1 : List UInt8) : Int))) (opt (aSlice σ tabS ti9.td (.pv (.str behind)) none (some (.pv (.int .i64 (List.length (t56_1 : List UInt8) : Int))))) fun t66 => isS t66 fun t66_1 => n29 X w0 n R σ s behind a b l_ t51 t52 t53 ((t66_1 : List UInt8) == t56_1)) (n29 X w0 n R σ s behind a b l_ t51 t52 t53 false)) (n35 X w0 n R σ s behind a b l_)) := by kernel_rfl
theorem b29_eq (X : XT) (w0 : Base) (n : Nat) (R : RT) (σ : Store) (s : List UInt8) (behind : List UInt8) (a : AV) (b : AV) (l_ : AV) (t51 : AV) (t52 : Int) (t53 : Int) (t69 : Bool) : b29 X w0 n R σ s behind a b l_ t51 t52 t53 t69 = (
  condB t69 (SCalls (cx w0) selvagelaw11_sure.id [] σ fun r σ' => isB r fun t70 => FinK (cx w0) n (.pv (.bool t70)) σ' R) (n16 X w0 n R σ s behind a b l_ t51 t52 (IntKind.wrap .i64 (t53 + 1)))) := by kernel_rfl
theorem n29_in {w0 : Base} {n : Nat} {R : RT} {σ : Store} {s : List UInt8} {behind : List UInt8} {a : AV} {b : AV} {l_ : AV} {t51 : AV} {t52 : Int} {t53 : Int} {t69 : Bool} (h : b29 (X w0 n) w0 n R σ s behind a b l_ t51 t52 t53 t69) : n29 (X w0 n) w0 n R σ s behind a b l_ t51 t52 t53 t69 := xr_in (S := cuts) (by kernel_rfl) h
theorem b35_eq (X : XT) (w0 : Base) (n : Nat) (R : RT) (σ : Store) (s : List UInt8) (behind : List UInt8) (a : AV) (b : AV) (l_ : AV) : b35 X w0 n R σ s behind a b l_ = (
  (List.length (s : List UInt8) + List.length (behind : List UInt8) ≤ 9223372036854775807 ∧ (SCalls (cx w0) unified_Parse.id [(.pv (.str (s ++ behind)))] σ fun r σ' => isTup r fun vs => opt ((vs)[0]?) fun t77 => isTup r fun vs_1 => opt ((vs_1)[1]?) fun t78 => isTup r fun vs_2 => opt ((vs_2)[2]?) fun t79 => isTup r fun vs_3 => opt ((vs_3)[3]?) fun t80 => isS t80 fun t80_1 => isTup r fun vs_4 => opt ((vs_4)[4]?) fun t81 => isI .i64 t81 fun t81_1 => isTup r fun vs_5 => opt ((vs_5)[5]?) fun t82 => opt (aStore ((σ' ++ [.cells 23 (AV.ofValue ti23.zero).cells]) ++ [.cells 23 (AV.ofValue ti23.zero).cells]) ti23 (.ptr (List.length σ') 0) t77) fun σ'_1 => opt (aStore σ'_1 ti23 (.ptr (List.length (σ' ++ [.cells 23 (AV.ofValue ti23.zero).cells])) 0) t78) fun σ'_2 => aBinK tabS 27 true .eql t82 (.pv (.raw .nilIface)) fun v => isB v fun b_1 => condB b_1 (opt (aLoad σ'_2 ti23 a) fun t86 => opt (aLoad σ'_2 ti23 (.ptr (List.length σ') 0)) fun t87 => aBinK tabS 23 false .eql t86 t87 fun v_1 => isB v_1 fun b_2 => condB b_2 (opt (aLoad σ'_2 ti23 b) fun t91 => opt (aLoad σ'_2 ti23 (.ptr (List.length (σ' ++ [.cells 23 (AV.ofValue ti23.zero).cells])) 0)) fun t92 => aBinK tabS 23 false .eql t91 t92 fun v_2 => isB v_2 fun b_3 => condB b_3 (SCalls (cx w0) selvagelaw11_sameHunks.id [l_, t79] σ'_2 fun r_1 σ'_3 => isB r_1 fun t98 => condB t98 (condB ((t80_1 : List UInt8) == behind) (SCalls (cx w0) selvagelaw11_sure.id [] σ'_3 fun r_2 σ'_4 => isB r_2 fun t106 => n39 X w0 n R σ'_4 t106) (n39 X w0 n R σ'_3 false)) (n39 X w0 n R σ'_3 false)) (n39 X w0 n R σ'_2 false)) (n39 X w0 n R σ'_2 false)) (n39 X w0 n R σ'_2 false)))) := by kernel_rfl
theorem n35_in {w0 : Base} {n : Nat} {R : RT} {σ : Store} {s : List UInt8} {behind : List UInt8} {a : AV} {b : AV} {l_ : AV} (h : b35 (X w0 n) w0 n R σ s behind a b l_) : n35 (X w0 n) w0 n R σ s behind a b l_ := xr_in (S := cuts) (by kernel_rfl) h
theorem b39_eq (X : XT) (w0 : Base) (n : Nat) (R : RT) (σ : Store) (t4 : Bool) : b39 X w0 n R σ t4 = (
  FinK (cx w0) n (.pv (.bool t4)) σ R) := by kernel_rfl
theorem n39_in {w0 : Base} {n : Nat} {R : RT} {σ : Store} {t4 : Bool} (h : b39 (X w0 n) w0 n R σ t4) : n39 (X w0 n) w0 n R σ t4 := xr_in (S := cuts) (by kernel_rfl) h
theorem b0_eq (X : XT) (w0 : Base) (n : Nat) (R : RT) (σ : Store) (s : List UInt8) (behind : List UInt8) : b0 X w0 n R σ s behind = (
  SCalls (cx w0) unified_Parse.id [(.pv (.str s))] σ fun r σ' => isTup r fun vs => opt ((vs)[0]?) fun t22 => isTup r fun vs_1 => opt ((vs_1)[1]?) fun t23 => isTup r fun vs_2 => opt ((vs_2)[2]?) fun t24 => isTup r fun vs_3 => opt ((vs_3)[3]?) fun t25 => isS t25 fun t25_1 => isTup r fun vs_4 => opt ((vs_4)[4]?) fun t26 => isI .i64 t26 fun t26_1 => isTup r fun vs_5 => opt ((vs_5)[5]?) fun t27 => opt (aStore ((σ' ++ [.cells 23 (AV.ofValue ti23.zero).cells]) ++ [.cells 23 (AV.ofValue ti23.zero).cells]) ti23 (.ptr (List.length σ') 0) t22) fun σ'_1 => opt (aStore σ'_1 ti23 (.ptr (List.length (σ' ++ [.cells 23 (AV.ofValue ti23.zero).cells])) 0) t23) fun σ'_2 => aBinK tabS 27 true .neq t27 (.pv (.raw .nilIface)) fun v => isB v fun b => condB b (n7 X w0 n R σ'_2 s behind (.ptr (List.length σ') 0) (.ptr (List.length (σ' ++ [.cells 23 (AV.ofValue ti23.zero).cells])) 0) t24 true) (condB (!((t25_1 : List UInt8) == [])) (n7 X w0 n R σ'_2 s behind (.ptr (List.length σ') 0) (.ptr (List.length (σ' ++ [.cells 23 (AV.ofValue ti23.zero).cells])) 0) t24 true) (opt (aIndex tabS ti9.td (.pv (.str s)) (IntKind.wrap .i64 ((List.length (s : List UInt8) : Int) - 1))) fun t39 => isI .u8 t39 fun t39_1 => condB ((t39_1 : Int) != 10) (n7 X w0 n R σ'_2 s behind (.ptr (List.length σ') 0) (.ptr (List.length (σ' ++ [.cells 23 (AV.ofValue ti23.zero).cells])) 0) t24 true) (n7 X w0 n R σ'_2 s behind (.ptr (List.length σ') 0) (.ptr (List.length (σ' ++ [.cells 23 (AV.ofValue ti23.zero).cells])) 0) t24 (decide (((IntKind.wrap .i64 ((List.length (s : List UInt8) : Int) + (List.length (behind : List UInt8) : Int))) : Int) > 4194304)))))) := by kernel_rfl
theorem ok (w0 : Base) : FOK (cx w0) selvagelaw11_UnifiedRest.id fe := ⟨Tryz.func5, by kernel_rfl, by kernel_rfl⟩
theorem calls {w0 : Base} {R : RT} {σ : Store} {s : List UInt8} {behind : List UInt8} (h : b0 (X w0 (List.length σ)) w0 (List.length σ) R σ s behind) : SCalls (cx w0) selvagelaw11_UnifiedRest.id [(.pv (.str s)), (.pv (.str behind))] σ R :=
  xr_enter (cxOK w0) (x := fe) (S := cuts) (selvagelaw11_UnifiedRest.ok w0) (by kernel_rfl) h
end selvagelaw11_UnifiedRest
end Go.Sv
