/- What the code of Go functions comes to over abstract stores, piece by piece; each equation by the kernel. Printed by a program of this session. -/
import Derived.Test.YtimmjplgogpglaaDoorSvT
import Derived.KernelRfl
set_option linter.unusedVariables false
set_option maxRecDepth 100000
namespace Go.Sv
open Go Go.Proofs
namespace selvageref25_Similarity
def lvs : List (List Nat) := [[0, 1], [0, 1], [0, 1], [0, 1], [0, 1], [0, 1, 18], [], [], [4, 5], [0, 1], [0, 1], [0, 1], [6, 7], [6, 7], [6, 7], [6, 7, 28], [], [], [4, 5], [6, 7], [6, 7], [6, 7], [6, 7, 8, 9], [6, 7, 8, 9], [4, 5]]
def lv : Nat → List Nat := lvOf lvs
noncomputable def code : Code := bodyOf Tryd.f6
noncomputable def fe : FE := ⟨Tryd.f6, code, lv⟩
def cuts : List Nat := [5]
abbrev X (w0 : Base) (n : Nat) : XT := xr (cx w0) 46 lv n
theorem ok (w0 : Base) : FOK (cx w0) selvageref25_Similarity.id fe := ⟨Tryd.func6, by kernel_rfl, by kernel_rfl⟩
section
variable (Z : XT) (w0 : Base) (n : Nat) (R : RT) (σ : Store) (a b : List UInt8) (t18 : Bool)
def q3 : QT := thenQ (fun env σ => pcodeX (cx w0) 46 lv n cuts Z (cAt code 10) 10 (prune (lv 10) env) σ (finQ (cx w0) Tryd.f6 n R)) (finQ (cx w0) Tryd.f6 n R)
def n5 : Prop :=
  Z (cAt code 5) 5 [(0, (.pv (.str a))), (1, (.pv (.str b))), (18, (.pv (.bool t18)))] σ (q3 Z w0 n R)
def b5 : Prop :=
  pcodeX (cx w0) 46 lv n cuts Z (cAt code 5) 5 [(0, (.pv (.str a))), (1, (.pv (.str b))), (18, (.pv (.bool t18)))] σ (q3 Z w0 n R)
def b0 : Prop :=
  pcodeX (cx w0) 46 lv n cuts Z code 0 (argsE 0 [(.pv (.str a)), (.pv (.str b))]) σ (finQ (cx w0) Tryd.f6 n R)
end
variable {Z : XT} {w0 : Base} {n : Nat} {R : RT} {σ τ : Store} {a b : List UInt8} {t18 : Bool}
theorem b5_eq : b5 Z w0 n R σ a b t18 = (
  condB t18 (FinK (cx w0) n (.tup [(.pv (.int .i64 0)), (.pv (.int .i64 2))]) σ R) (SCalls (cx w0) selvageref01_Split.id [(.pv (.str a))] σ fun r σ' => SCalls (cx w0) selvageref01_Split.id [(.pv (.str b))] σ' fun r_1 σ'_1 => opt (aLen ti46.td r) fun t24 => isI .i64 t24 fun t24_1 => opt (aLen ti46.td r_1) fun t26 => isI .i64 t26 fun t26_1 => condB (((IntKind.wrap .i64 (t24_1 + t26_1)) : Int) == 0) (FinK (cx w0) n (.tup [(.pv (.int .i64 100)), (.pv (.int .i64 0))]) σ'_1 R) (SCalls (cx w0) selvageref05_Ids.id [r, r_1, (.pv (.int .i64 0))] σ'_1 fun r_2 σ'_2 => isTup r_2 fun vs => opt ((vs)[0]?) fun t33 => isTup r_2 fun vs_1 => opt ((vs_1)[1]?) fun t34 => isTup r_2 fun vs_2 => opt ((vs_2)[2]?) fun t35 => isI .i64 t35 fun t35_1 => SCalls (cx w0) selvageref07_Common.id [t33, t34] σ'_2 fun r_3 σ'_3 => isI .i64 r_3 fun t38 => opt (aLen ti46.td r) fun t41 => isI .i64 t41 fun t41_1 => opt (aLen ti46.td r_1) fun t43 => isI .i64 t43 fun t43_1 => (((IntKind.wrap .i64 (t41_1 + t43_1)) : Int) ≠ 0 ∧ (FinK (cx w0) n (.tup [(.pv (.int .i64 (IntKind.wrap .i64 (Int.tdiv (IntKind.wrap .i64 (200 * t38)) (IntKind.wrap .i64 (t41_1 + t43_1)))))), (.pv (.int .i64 0))]) σ'_3 R))))) := by kernel_rfl
theorem n5_in (h : b5 (X w0 n) w0 n R σ a b t18) : n5 (X w0 n) w0 n R σ a b t18 := xr_in (S := cuts) (by kernel_rfl) h
theorem b0_eq : b0 Z w0 n R σ a b = (
  condB (decide (((List.length (a : List UInt8) : Int) : Int) > 4194304)) (n5 Z w0 n R σ a b true) (n5 Z w0 n R σ a b (decide (((List.length (b : List UInt8) : Int) : Int) > 4194304)))) := by kernel_rfl
theorem calls (h : b0 (X w0 (List.length σ)) w0 (List.length σ) R σ a b) : SCalls (cx w0) selvageref25_Similarity.id [(.pv (.str a)), (.pv (.str b))] σ R :=
  xr_enter (cxOK w0) (x := fe) (S := cuts) (selvageref25_Similarity.ok w0) (by kernel_rfl) h
attribute [irreducible] n5 b5 b0
end selvageref25_Similarity
namespace selvageref05_Ids
def lvs : List (List Nat) := [[0, 1, 2], [0, 1, 2], [0, 1, 2], [0, 1, 2], [0, 1, 2], [0, 1, 2, 21], [], [], [6, 7, 8], [0, 1, 2], [0, 1, 2], [0, 1, 2], [0, 1, 2, 9], [0, 1, 2, 9], [0, 1, 2, 9, 10], [0, 1, 2, 9, 10], [0, 1, 2, 9, 10], [0, 1, 2, 9, 10, 11], [0, 1, 2, 9, 10, 11], [0, 1, 2, 9, 10, 11], [0, 1, 2, 9, 10, 11], [0, 1, 2, 9, 10, 11], [0, 1, 2, 9, 10, 11, 23], [0, 1, 2, 9, 10, 11], [10], [0, 1, 2, 9, 10, 11], [0, 1, 2, 9, 10, 11], [0, 1, 2, 9, 10, 11], [0, 1, 2, 9, 10, 11], [0, 1, 2, 9, 10, 11, 12], [0, 1, 2, 9, 10, 11, 12], [0, 1, 2, 9, 10, 11, 12], [0, 1, 2, 9, 10, 11, 12, 28], [0, 1, 2, 9, 10, 11], [0, 1, 2, 9, 10, 11, 12], [0, 1, 2, 9, 10, 11, 12], [0, 1, 2, 9, 10, 11, 12], [0, 1, 2, 9, 10, 11, 12, 13], [0, 1, 2, 9, 10, 11, 12, 13], [0, 1, 2, 9, 10, 11, 12, 13], [0, 1, 2, 9, 10, 11, 12, 13], [0, 1, 2, 9, 10, 11, 12, 13], [0, 1, 2, 9, 10, 11, 12, 13, 33], [0, 1, 2, 9, 10, 11, 12, 13], [0, 1, 2, 9, 10, 11], [0, 1, 2, 9, 10, 11, 12, 13], [0, 1, 2, 9, 10, 11, 12, 13], [0, 1, 2, 9, 10, 11, 12, 13], [0, 1, 2, 9, 10, 11, 12, 13], [0, 1, 2, 9, 10, 11, 12, 13, 14], [0, 1, 2, 9, 10, 11, 12, 13, 14], [0, 1, 2, 9, 10, 11, 12, 13, 14, 15], [0, 1, 2, 9, 10, 11, 12, 13, 14, 15], [0, 1, 2, 9, 10, 11, 12, 13, 14, 15], [0, 1, 2, 9, 10, 11, 12, 13, 14, 15], [0, 1, 2, 9, 10, 11, 12, 13, 14, 15], [0, 1, 2, 9, 10, 11, 12, 13, 14, 15], [0, 1, 2, 9, 10, 11, 12, 13, 14, 15, 53], [0, 1, 2, 9, 10, 11, 12, 13, 14, 15], [0, 1, 2, 9, 10, 11, 12, 13, 14, 15], [0, 1, 2, 9, 10, 11, 12, 13, 14, 15], [0, 1, 2, 9, 10, 11, 12, 13, 14, 15], [0, 1, 2, 9, 10, 11, 12, 13, 14, 15], [0, 1, 2, 9, 10, 11, 12, 13, 14, 15], [0, 1, 2, 9, 10, 11, 12, 13, 14, 15], [0, 1, 2, 9, 10, 11, 12, 13, 14, 15, 59], [0, 1, 2, 9, 10, 11, 12, 13, 14, 15], [0, 1, 2, 9, 10, 11, 12, 13, 15], [0, 1, 2, 9, 10, 11, 12, 13, 15], [0, 1, 2, 9, 10, 11, 12, 13], [0, 1, 2, 9, 10, 11], [10], [10], [6, 7, 8]]
def lv : Nat → List Nat := lvOf lvs
noncomputable def code : Code := bodyOf Tryd.f15
noncomputable def fe : FE := ⟨Tryd.f15, code, lv⟩
def cuts : List Nat := [5, 19, 35, 39, 54, 57, 62, 68, 69, 70, 71]
abbrev X (w0 : Base) (n : Nat) : XT := xr (cx w0) 76 lv n
theorem ok (w0 : Base) : FOK (cx w0) selvageref05_Ids.id fe := ⟨Tryd.func15, by kernel_rfl, by kernel_rfl⟩
section
variable (Z : XT) (w0 : Base) (n : Nat) (R : RT) (σ : Store) (a b : AV) (equal : Int) (t21 : Bool) (keys out : AV) (side : Int) (l_ : AV) (i : Int) (k : List UInt8) (at_ : Int) (t53 : Bool)
def q3 : QT := thenQ (fun env σ => pcodeX (cx w0) 76 lv n cuts Z (cAt code 10) 10 (prune (lv 10) env) σ (finQ (cx w0) Tryd.f15 n R)) (finQ (cx w0) Tryd.f15 n R)
def q15 : QT := thenQ (fun env σ => Z (cAt code 71) 71 (prune (lv 71) env) σ (finQ (cx w0) Tryd.f15 n R)) (finQ (cx w0) Tryd.f15 n R)
def q18 : QT := blockQ 0 (q15 Z w0 n R)
def q19 : QT := thenQ (fun env σ => Z (cAt code 18) 18 (prune (lv 18) env) σ (q18 Z w0 n R)) (q18 Z w0 n R)
def q26 : QT := thenQ (fun env σ => Z (cAt code 70) 70 (prune (lv 70) env) σ (q19 Z w0 n R)) (q19 Z w0 n R)
def q27 : QT := blockQ 1 (q26 Z w0 n R)
def q38 : QT := blockQ 2 (q27 Z w0 n R)
def q39 : QT := thenQ (fun env σ => Z (cAt code 38) 38 (prune (lv 38) env) σ (q38 Z w0 n R)) (q38 Z w0 n R)
def q46 : QT := thenQ (fun env σ => Z (cAt code 69) 69 (prune (lv 69) env) σ (q39 Z w0 n R)) (q39 Z w0 n R)
def q47 : QT := blockQ 3 (q46 Z w0 n R)
def q52 : QT := thenQ (fun env σ => Z (cAt code 62) 62 (prune (lv 62) env) σ (q47 Z w0 n R)) (q47 Z w0 n R)
def q53 : QT := blockQ 4 (q52 Z w0 n R)
def q54 : QT := thenQ (fun env σ => Z (cAt code 53) 53 (prune (lv 53) env) σ (q53 Z w0 n R)) (q53 Z w0 n R)
def q55 : QT := thenQ (fun env σ => pcodeX (cx w0) 76 lv n cuts Z (cAt code 60) 60 (prune (lv 60) env) σ (q54 Z w0 n R)) (q54 Z w0 n R)
def n5 : Prop :=
  Z (cAt code 5) 5 [(0, a), (1, b), (2, (.pv (.int .i64 equal))), (21, (.pv (.bool t21)))] σ (q3 Z w0 n R)
def b5 : Prop :=
  pcodeX (cx w0) 76 lv n cuts Z (cAt code 5) 5 [(0, a), (1, b), (2, (.pv (.int .i64 equal))), (21, (.pv (.bool t21)))] σ (q3 Z w0 n R)
def n18 : Prop :=
  Z (cAt code 18) 18 [(0, a), (1, b), (2, (.pv (.int .i64 equal))), (9, keys), (10, out), (11, (.pv (.int .i64 side)))] σ (q18 Z w0 n R)
def b19 : Prop :=
  pcodeX (cx w0) 76 lv n cuts Z (cAt code 19) 19 [(0, a), (1, b), (2, (.pv (.int .i64 equal))), (9, keys), (10, out), (11, (.pv (.int .i64 side)))] σ (q19 Z w0 n R)
def n35 : Prop :=
  Z (cAt code 35) 35 [(0, a), (1, b), (2, (.pv (.int .i64 equal))), (9, keys), (10, out), (11, (.pv (.int .i64 side))), (12, l_)] σ (q27 Z w0 n R)
def b35 : Prop :=
  pcodeX (cx w0) 76 lv n cuts Z (cAt code 35) 35 [(0, a), (1, b), (2, (.pv (.int .i64 equal))), (9, keys), (10, out), (11, (.pv (.int .i64 side))), (12, l_)] σ (q27 Z w0 n R)
def n38 : Prop :=
  Z (cAt code 38) 38 [(0, a), (1, b), (2, (.pv (.int .i64 equal))), (9, keys), (10, out), (11, (.pv (.int .i64 side))), (12, l_), (13, (.pv (.int .i64 i)))] σ (q38 Z w0 n R)
def b39 : Prop :=
  pcodeX (cx w0) 76 lv n cuts Z (cAt code 39) 39 [(0, a), (1, b), (2, (.pv (.int .i64 equal))), (9, keys), (10, out), (11, (.pv (.int .i64 side))), (12, l_), (13, (.pv (.int .i64 i)))] σ (q39 Z w0 n R)
def n53 : Prop :=
  Z (cAt code 53) 53 [(0, a), (1, b), (2, (.pv (.int .i64 equal))), (9, keys), (10, out), (11, (.pv (.int .i64 side))), (12, l_), (13, (.pv (.int .i64 i))), (14, (.pv (.str k))), (15, (.pv (.int .i64 at_)))] σ (q53 Z w0 n R)
def b54 : Prop :=
  pcodeX (cx w0) 76 lv n cuts Z (cAt code 54) 54 [(0, a), (1, b), (2, (.pv (.int .i64 equal))), (9, keys), (10, out), (11, (.pv (.int .i64 side))), (12, l_), (13, (.pv (.int .i64 i))), (14, (.pv (.str k))), (15, (.pv (.int .i64 at_)))] σ (q54 Z w0 n R)
def n57 : Prop :=
  Z (cAt code 57) 57 [(0, a), (1, b), (2, (.pv (.int .i64 equal))), (9, keys), (10, out), (11, (.pv (.int .i64 side))), (12, l_), (13, (.pv (.int .i64 i))), (14, (.pv (.str k))), (15, (.pv (.int .i64 at_))), (53, (.pv (.bool t53)))] σ (q55 Z w0 n R)
def b57 : Prop :=
  pcodeX (cx w0) 76 lv n cuts Z (cAt code 57) 57 [(0, a), (1, b), (2, (.pv (.int .i64 equal))), (9, keys), (10, out), (11, (.pv (.int .i64 side))), (12, l_), (13, (.pv (.int .i64 i))), (14, (.pv (.str k))), (15, (.pv (.int .i64 at_))), (53, (.pv (.bool t53)))] σ (q55 Z w0 n R)
def n62 : Prop :=
  Z (cAt code 62) 62 [(0, a), (1, b), (2, (.pv (.int .i64 equal))), (9, keys), (10, out), (11, (.pv (.int .i64 side))), (12, l_), (13, (.pv (.int .i64 i))), (14, (.pv (.str k))), (15, (.pv (.int .i64 at_)))] σ (q47 Z w0 n R)
def b62 : Prop :=
  pcodeX (cx w0) 76 lv n cuts Z (cAt code 62) 62 [(0, a), (1, b), (2, (.pv (.int .i64 equal))), (9, keys), (10, out), (11, (.pv (.int .i64 side))), (12, l_), (13, (.pv (.int .i64 i))), (14, (.pv (.str k))), (15, (.pv (.int .i64 at_)))] σ (q47 Z w0 n R)
def n68 : Prop :=
  Z (cAt code 68) 68 [(0, a), (1, b), (2, (.pv (.int .i64 equal))), (9, keys), (10, out), (11, (.pv (.int .i64 side))), (12, l_), (13, (.pv (.int .i64 i))), (15, (.pv (.int .i64 at_)))] σ (q47 Z w0 n R)
def b68 : Prop :=
  pcodeX (cx w0) 76 lv n cuts Z (cAt code 68) 68 [(0, a), (1, b), (2, (.pv (.int .i64 equal))), (9, keys), (10, out), (11, (.pv (.int .i64 side))), (12, l_), (13, (.pv (.int .i64 i))), (15, (.pv (.int .i64 at_)))] σ (q47 Z w0 n R)
def n69 : Prop :=
  Z (cAt code 69) 69 [(0, a), (1, b), (2, (.pv (.int .i64 equal))), (9, keys), (10, out), (11, (.pv (.int .i64 side))), (12, l_), (13, (.pv (.int .i64 i)))] σ (q39 Z w0 n R)
def b69 : Prop :=
  pcodeX (cx w0) 76 lv n cuts Z (cAt code 69) 69 [(0, a), (1, b), (2, (.pv (.int .i64 equal))), (9, keys), (10, out), (11, (.pv (.int .i64 side))), (12, l_), (13, (.pv (.int .i64 i)))] σ (q39 Z w0 n R)
def n70 : Prop :=
  Z (cAt code 70) 70 [(0, a), (1, b), (2, (.pv (.int .i64 equal))), (9, keys), (10, out), (11, (.pv (.int .i64 side)))] σ (q19 Z w0 n R)
def b70 : Prop :=
  pcodeX (cx w0) 76 lv n cuts Z (cAt code 70) 70 [(0, a), (1, b), (2, (.pv (.int .i64 equal))), (9, keys), (10, out), (11, (.pv (.int .i64 side)))] σ (q19 Z w0 n R)
def n71 : Prop :=
  Z (cAt code 71) 71 [(10, out)] σ (finQ (cx w0) Tryd.f15 n R)
def b71 : Prop :=
  pcodeX (cx w0) 76 lv n cuts Z (cAt code 71) 71 [(10, out)] σ (finQ (cx w0) Tryd.f15 n R)
def b0 : Prop :=
  pcodeX (cx w0) 76 lv n cuts Z code 0 (argsE 0 [a, b, (.pv (.int .i64 equal))]) σ (finQ (cx w0) Tryd.f15 n R)
end
variable {Z : XT} {w0 : Base} {n : Nat} {R : RT} {σ τ : Store} {a b keys out l_ a' b' keys' out' l_' : AV} {equal side i at_ equal' side' i' at_' : Int} {t21 t53 : Bool} {k k' : List UInt8}
theorem b5_eq : b5 Z w0 n R σ a b equal t21 = (
  condB t21 (FinK (cx w0) n (.tup [.nilsl, .nilsl, (.pv (.int .i64 1))]) σ R) (n18 Z w0 n R (σ ++ [.cells 64 (AV.ofValue ti64.zero).cells]) a b equal .nilsl (.ptr (List.length σ) 0) 0)) := by kernel_rfl
theorem n5_in (h : b5 (X w0 n) w0 n R σ a b equal t21) : n5 (X w0 n) w0 n R σ a b equal t21 := xr_in (S := cuts) (by kernel_rfl) h
theorem n18_in (h : b19 (X w0 n) w0 n R σ a b equal keys out side) : n18 (X w0 n) w0 n R σ a b equal keys out side := xr_round (cxOK w0) (S := cuts) (by kernel_rfl : cAt code 18 = .loop (cAt code 19)) h
theorem n18_weak (e : EWeak (cx w0) n [(0, a), (1, b), (2, (.pv (.int .i64 equal))), (9, keys), (10, out), (11, (.pv (.int .i64 side)))] σ [(0, a'), (1, b'), (2, (.pv (.int .i64 equal'))), (9, keys'), (10, out'), (11, (.pv (.int .i64 side')))] τ) (h : n18 (X w0 n) w0 n R τ a' b' equal' keys' out' side') : n18 (X w0 n) w0 n R σ a b equal keys out side := xr_weak (L := lv) (k := 18) (by kernel_rfl : cAt code 18 = .loop (cAt code 19)) e h
theorem b19_eq : b19 Z w0 n R σ a b equal keys out side = (
  condB (decide ((side : Int) < 2)) (condB ((side : Int) == 1) (n35 Z w0 n R σ a b equal keys out side b) (n35 Z w0 n R σ a b equal keys out side a)) (n71 Z w0 n R σ out)) := by kernel_rfl
theorem b35_eq : b35 Z w0 n R σ a b equal keys out side l_ = (
  n38 Z w0 n R σ a b equal keys out side l_ 0) := by kernel_rfl
theorem n35_in (h : b35 (X w0 n) w0 n R σ a b equal keys out side l_) : n35 (X w0 n) w0 n R σ a b equal keys out side l_ := xr_in (S := cuts) (by kernel_rfl) h
theorem n38_in (h : b39 (X w0 n) w0 n R σ a b equal keys out side l_ i) : n38 (X w0 n) w0 n R σ a b equal keys out side l_ i := xr_round (cxOK w0) (S := cuts) (by kernel_rfl : cAt code 38 = .loop (cAt code 39)) h
theorem b39_eq : b39 Z w0 n R σ a b equal keys out side l_ i = (
  opt (aLen ti46.td l_) fun t32 => isI .i64 t32 fun t32_1 => condB (decide ((i : Int) < t32_1)) (opt (aIndexAddr σ tabS ti46.td l_ i) fun t38 => opt (aLoad σ ti9 t38) fun t39 => isS t39 fun t39_1 => SCalls (cx w0) selvageref05_Key.id [(.pv (.str t39_1)), (.pv (.int .i64 equal))] σ fun r σ' => isS r fun t41 => n53 Z w0 n R σ' a b equal keys out side l_ i t41 0) (n70 Z w0 n R σ a b equal keys out side)) := by kernel_rfl
theorem n53_in (h : b54 (X w0 n) w0 n R σ a b equal keys out side l_ i k at_) : n53 (X w0 n) w0 n R σ a b equal keys out side l_ i k at_ := xr_round (cxOK w0) (S := cuts) (by kernel_rfl : cAt code 53 = .loop (cAt code 54)) h
theorem b54_eq : b54 Z w0 n R σ a b equal keys out side l_ i k at_ = (
  opt (aLen ti46.td keys) fun t44 => isI .i64 t44 fun t44_1 => condB (decide ((at_ : Int) < t44_1)) (opt (aIndexAddr σ tabS ti46.td keys at_) fun t49 => opt (aLoad σ ti9 t49) fun t50 => isS t50 fun t50_1 => n57 Z w0 n R σ a b equal keys out side l_ i k at_ (!((t50_1 : List UInt8) == k))) (n57 Z w0 n R σ a b equal keys out side l_ i k at_ false)) := by kernel_rfl
theorem b57_eq : b57 Z w0 n R σ a b equal keys out side l_ i k at_ t53 = (
  condB t53 (n53 Z w0 n R σ a b equal keys out side l_ i k (IntKind.wrap .i64 (at_ + 1))) (n62 Z w0 n R σ a b equal keys out side l_ i k at_)) := by kernel_rfl
theorem n57_in (h : b57 (X w0 n) w0 n R σ a b equal keys out side l_ i k at_ t53) : n57 (X w0 n) w0 n R σ a b equal keys out side l_ i k at_ t53 := xr_in (S := cuts) (by kernel_rfl) h
theorem b62_eq : b62 Z w0 n R σ a b equal keys out side l_ i k at_ = (
  opt (aLen ti46.td keys) fun t58 => isI .i64 t58 fun t58_1 => condB ((at_ : Int) == t58_1) (opt2 (aBuildSlice σ ti9 false 1 [(0, (.pv (.str k)))]) fun t62 σ' => opt2 (aAppend σ' ti9 keys t62) fun t63 σ'_1 => n68 Z w0 n R σ'_1 a b equal t63 out side l_ i at_) (n68 Z w0 n R σ a b equal keys out side l_ i at_)) := by kernel_rfl
theorem n62_in (h : b62 (X w0 n) w0 n R σ a b equal keys out side l_ i k at_) : n62 (X w0 n) w0 n R σ a b equal keys out side l_ i k at_ := xr_in (S := cuts) (by kernel_rfl) h
theorem b68_eq : b68 Z w0 n R σ a b equal keys out side l_ i at_ = (
  opt (aIndexAddr σ tabS ti64.td out side) fun t66 => opt (aLoad σ ti43 t66) fun t67 => opt2 (aBuildSlice σ ti3 false 1 [(0, (.pv (.int .i64 at_)))]) fun t69 σ' => opt2 (aAppend σ' ti3 t67 t69) fun t70 σ'_1 => opt (aIndexAddr σ'_1 tabS ti64.td out side) fun t71 => opt (aStore σ'_1 ti43 t71 t70) fun σ'_2 => n69 Z w0 n R σ'_2 a b equal keys out side l_ i) := by kernel_rfl
theorem n68_in (h : b68 (X w0 n) w0 n R σ a b equal keys out side l_ i at_) : n68 (X w0 n) w0 n R σ a b equal keys out side l_ i at_ := xr_in (S := cuts) (by kernel_rfl) h
theorem b69_eq : b69 Z w0 n R σ a b equal keys out side l_ i = (
  n38 Z w0 n R σ a b equal keys out side l_ (IntKind.wrap .i64 (i + 1))) := by kernel_rfl
theorem n69_in (h : b69 (X w0 n) w0 n R σ a b equal keys out side l_ i) : n69 (X w0 n) w0 n R σ a b equal keys out side l_ i := xr_in (S := cuts) (by kernel_rfl) h
theorem b70_eq : b70 Z w0 n R σ a b equal keys out side = (
  n18 Z w0 n R σ a b equal keys out (IntKind.wrap .i64 (side + 1))) := by kernel_rfl
theorem n70_in (h : b70 (X w0 n) w0 n R σ a b equal keys out side) : n70 (X w0 n) w0 n R σ a b equal keys out side := xr_in (S := cuts) (by kernel_rfl) h
theorem b71_eq : b71 Z w0 n R σ out = (
  opt (aIndexAddr σ tabS ti64.td out 0) fun t72 => opt (aLoad σ ti43 t72) fun t73 => opt (aIndexAddr σ tabS ti64.td out 1) fun t74 => opt (aLoad σ ti43 t74) fun t75 => ((opt (aIndexAddr σ tabS ti64.td out 1) fun t74_1 => ((t74_1 : AV) = t74)) ∧ (((opt (aLoad σ ti43 t74) fun t75_1 => ((t75_1 : AV) = t75)) ∧ (FinK (cx w0) n (.tup [t73, t75, (.pv (.int .i64 0))]) σ R))))) := by kernel_rfl
theorem n71_in (h : b71 (X w0 n) w0 n R σ out) : n71 (X w0 n) w0 n R σ out := xr_in (S := cuts) (by kernel_rfl) h
theorem b0_eq : b0 Z w0 n R σ a b equal = (
  condB (decide ((equal : Int) < 0)) (n5 Z w0 n R σ a b equal true) (n5 Z w0 n R σ a b equal (decide ((equal : Int) > 15)))) := by kernel_rfl
theorem calls (h : b0 (X w0 (List.length σ)) w0 (List.length σ) R σ a b equal) : SCalls (cx w0) selvageref05_Ids.id [a, b, (.pv (.int .i64 equal))] σ R :=
  xr_enter (cxOK w0) (x := fe) (S := cuts) (selvageref05_Ids.ok w0) (by kernel_rfl) h
attribute [irreducible] n5 b5 n18 b19 n35 b35 n38 b39 n53 b54 n57 b57 n62 b62 n68 b68 n69 b69 n70 b70 n71 b71 b0
end selvageref05_Ids
namespace selvageref05_Key
def lvs : List (List Nat) := [[0, 1], [0, 1], [0, 1], [0, 1], [0, 1], [0, 1, 15], [0], [0], [4], [0, 1], [0, 1], [0, 1], [0, 1, 5], [0, 1, 5], [1, 5, 6], [1, 5, 6], [1, 5, 6], [1, 5, 6], [1, 5, 6, 23], [1, 5, 6], [1, 5, 6], [1, 5, 6], [1, 5, 6, 30], [1, 5, 6], [1, 5, 6], [1, 5, 6], [1, 5, 6, 38], [1, 5, 6], [1, 5, 6], [1, 5, 6], [1, 5, 6], [1, 5, 6], [5, 6, 47], [5, 6], [5, 6], [5, 6, 7], [5, 6, 7], [5, 6, 7], [5, 6, 7, 8], [5, 6, 7, 8], [5, 6, 7, 8], [5, 6, 7, 8], [5, 6, 7, 8], [5, 6, 7, 8, 51], [5, 6, 7, 8], [6, 7], [5, 6, 7, 8], [5, 6, 7, 8], [5, 6, 7, 8], [5, 6, 7, 8], [5, 6, 7, 8, 9], [5, 6, 7, 8, 9], [5, 6, 7, 8, 9], [5, 6, 7, 8, 9, 62], [5, 6, 7, 8, 9], [5, 6, 7, 8, 9], [5, 6, 7, 8, 9], [5, 6, 7, 8], [6, 7], [5, 6], [5, 6], [5, 6], [4]]
def lv : Nat → List Nat := lvOf lvs
noncomputable def code : Code := bodyOf Tryd.f24
noncomputable def fe : FE := ⟨Tryd.f24, code, lv⟩
def cuts : List Nat := [5, 29, 40, 53, 56, 58, 60]
abbrev X (w0 : Base) (n : Nat) : XT := xr (cx w0) 74 lv n
theorem ok (w0 : Base) : FOK (cx w0) selvageref05_Key.id fe := ⟨Tryd.func24, by kernel_rfl, by kernel_rfl⟩
section
variable (Z : XT) (w0 : Base) (n : Nat) (R : RT) (σ : Store) (line : List UInt8) (equal : Int) (t15 : Bool) (s end_ : List UInt8) (b : AV) (i c : Int) (t62 : Bool)
def q3 : QT := thenQ (fun env σ => pcodeX (cx w0) 74 lv n cuts Z (cAt code 10) 10 (prune (lv 10) env) σ (finQ (cx w0) Tryd.f24 n R)) (finQ (cx w0) Tryd.f24 n R)
def q30 : QT := thenQ (fun env σ => Z (cAt code 60) 60 (prune (lv 60) env) σ (finQ (cx w0) Tryd.f24 n R)) (finQ (cx w0) Tryd.f24 n R)
def q36 : QT := thenQ (fun env σ => Z (cAt code 58) 58 (prune (lv 58) env) σ (q30 Z w0 n R)) (q30 Z w0 n R)
def q39 : QT := blockQ 1 (q36 Z w0 n R)
def n5 : Prop :=
  Z (cAt code 5) 5 [(0, (.pv (.str line))), (1, (.pv (.int .i64 equal))), (15, (.pv (.bool t15)))] σ (q3 Z w0 n R)
def b5 : Prop :=
  pcodeX (cx w0) 74 lv n cuts Z (cAt code 5) 5 [(0, (.pv (.str line))), (1, (.pv (.int .i64 equal))), (15, (.pv (.bool t15)))] σ (q3 Z w0 n R)
def n29 : Prop :=
  Z (cAt code 29) 29 [(1, (.pv (.int .i64 equal))), (5, (.pv (.str s))), (6, (.pv (.str end_)))] σ (finQ (cx w0) Tryd.f24 n R)
def b29 : Prop :=
  pcodeX (cx w0) 74 lv n cuts Z (cAt code 29) 29 [(1, (.pv (.int .i64 equal))), (5, (.pv (.str s))), (6, (.pv (.str end_)))] σ (finQ (cx w0) Tryd.f24 n R)
def n39 : Prop :=
  Z (cAt code 39) 39 [(5, (.pv (.str s))), (6, (.pv (.str end_))), (7, b), (8, (.pv (.int .i64 i)))] σ (q39 Z w0 n R)
def n60 : Prop :=
  Z (cAt code 60) 60 [(5, (.pv (.str s))), (6, (.pv (.str end_)))] σ (finQ (cx w0) Tryd.f24 n R)
def b60 : Prop :=
  pcodeX (cx w0) 74 lv n cuts Z (cAt code 60) 60 [(5, (.pv (.str s))), (6, (.pv (.str end_)))] σ (finQ (cx w0) Tryd.f24 n R)
def b0 : Prop :=
  pcodeX (cx w0) 74 lv n cuts Z code 0 (argsE 0 [(.pv (.str line)), (.pv (.int .i64 equal))]) σ (finQ (cx w0) Tryd.f24 n R)
end
variable {Z : XT} {w0 : Base} {n : Nat} {R : RT} {σ τ : Store} {line s end_ s' end_' : List UInt8} {equal i c i' : Int} {t15 t62 : Bool} {b b' : AV}
theorem b5_eq : b5 Z w0 n R σ line equal t15 = (
  condB t15 (FinK (cx w0) n (.pv (.str line)) σ R) (SCalls (cx w0) selvageref01_Bare.id [(.pv (.str line))] σ fun r σ' => isS r fun t18 => opt (aSlice σ' tabS ti9.td (.pv (.str line)) (some (.pv (.int .i64 (List.length (t18 : List UInt8) : Int)))) none) fun t22 => isS t22 fun t22_1 => ((2 : Int) ≠ 0 ∧ (((2 : Int) ≠ 0 ∧ (condB (((Int.tmod (IntKind.wrap .i64 (Int.tdiv equal 2)) 2) : Int) == 1) (SCalls (cx w0) selvageref05_runs.id [(.pv (.str t18)), (.pv (.bool false))] σ' fun r_1 σ'_1 => isS r_1 fun t29 => n29 Z w0 n R σ'_1 equal t29 t22_1) (((4 : Int) ≠ 0 ∧ (((2 : Int) ≠ 0 ∧ (condB (((Int.tmod (IntKind.wrap .i64 (Int.tdiv equal 4)) 2) : Int) == 1) (SCalls (cx w0) selvageref05_runs.id [(.pv (.str t18)), (.pv (.bool true))] σ' fun r_1 σ'_1 => isS r_1 fun t36 => SCalls (cx w0) selvageref05_tail.id [(.pv (.str t36))] σ'_1 fun r_2 σ'_2 => isS r_2 fun t37 => n29 Z w0 n R σ'_2 equal t37 t22_1) (((8 : Int) ≠ 0 ∧ (((2 : Int) ≠ 0 ∧ (condB (((Int.tmod (IntKind.wrap .i64 (Int.tdiv equal 8)) 2) : Int) == 1) (SCalls (cx w0) selvageref05_tail.id [(.pv (.str t18))] σ' fun r_1 σ'_1 => isS r_1 fun t44 => n29 Z w0 n R σ'_1 equal t44 t22_1) (n29 Z w0 n R σ' equal t18 t22_1))))))))))))))))) := by kernel_rfl
theorem n5_in (h : b5 (X w0 n) w0 n R σ line equal t15) : n5 (X w0 n) w0 n R σ line equal t15 := xr_in (S := cuts) (by kernel_rfl) h
theorem b29_eq : b29 Z w0 n R σ equal s end_ = (
  ((2 : Int) ≠ 0 ∧ (condB (((Int.tmod equal 2) : Int) == 1) (n39 Z w0 n R σ s end_ .nilsl 0) (n60 Z w0 n R σ s end_)))) := by kernel_rfl
theorem n29_in (h : b29 (X w0 n) w0 n R σ equal s end_) : n29 (X w0 n) w0 n R σ equal s end_ := xr_in (S := cuts) (by kernel_rfl) h
theorem b60_eq : b60 Z w0 n R σ s end_ = (
  (List.length (s : List UInt8) + List.length (end_ : List UInt8) ≤ 9223372036854775807 ∧ (FinK (cx w0) n (.pv (.str (s ++ end_))) σ R))) := by kernel_rfl
theorem n60_in (h : b60 (X w0 n) w0 n R σ s end_) : n60 (X w0 n) w0 n R σ s end_ := xr_in (S := cuts) (by kernel_rfl) h
theorem b0_eq : b0 Z w0 n R σ line equal = (
  condB (decide ((equal : Int) < 0)) (n5 Z w0 n R σ line equal true) (n5 Z w0 n R σ line equal (decide ((equal : Int) > 15)))) := by kernel_rfl
theorem calls (h : b0 (X w0 (List.length σ)) w0 (List.length σ) R σ line equal) : SCalls (cx w0) selvageref05_Key.id [(.pv (.str line)), (.pv (.int .i64 equal))] σ R :=
  xr_enter (cxOK w0) (x := fe) (S := cuts) (selvageref05_Key.ok w0) (by kernel_rfl) h
attribute [irreducible] n5 b5 n29 b29 n39 n60 b60 b0
end selvageref05_Key
namespace selvageref07_Common
def lvs : List (List Nat) := [[0, 1], [0, 1], [0, 1], [0, 1], [0, 1, 5], [0, 1, 5], [0, 1, 5], [0, 1, 5, 6], [0, 1, 5, 6], [0, 1, 5, 6], [0, 1, 5, 6], [0, 1, 5, 6], [0, 1, 5, 6, 16], [0, 1, 5, 6], [1, 5], [0, 1, 5, 6], [0, 1, 5, 6], [0, 1, 5, 6], [0, 1, 5, 6], [0, 1, 5, 6, 7], [0, 1, 5, 6, 7], [0, 1, 5, 6, 7], [0, 1, 5, 6, 7, 8], [0, 1, 5, 6, 7, 8], [0, 1, 5, 6, 7, 8], [0, 1, 5, 6, 7, 8], [0, 1, 5, 6, 7, 8], [0, 1, 5, 6, 7, 8, 26], [0, 1, 5, 6, 7, 8], [0, 1, 6, 7], [0, 1, 5, 6, 7, 8], [0, 1, 5, 6, 7, 8], [0, 1, 5, 6, 7, 8], [0, 1, 5, 6, 7, 8], [0, 1, 5, 6, 7, 8, 37], [0, 1, 5, 6, 7, 8], [0, 1, 5, 6, 7, 8], [0, 1, 5, 6, 7, 8], [0, 1, 6, 7], [0, 1, 5, 6], [1, 5], [1, 5], [4]]
def lv : Nat → List Nat := lvOf lvs
noncomputable def code : Code := bodyOf Tryd.f16
noncomputable def fe : FE := ⟨Tryd.f16, code, lv⟩
def cuts : List Nat := [9, 24, 37, 38, 39, 40]
abbrev X (w0 : Base) (n : Nat) : XT := xr (cx w0) 67 lv n
theorem ok (w0 : Base) : FOK (cx w0) selvageref07_Common.id fe := ⟨Tryd.func16, by kernel_rfl, by kernel_rfl⟩
section
variable (Z : XT) (w0 : Base) (n : Nat) (R : RT) (σ : Store) (a b row : AV) (i : Int) (next : AV) (k : Int)
def q5 : QT := thenQ (fun env σ => Z (cAt code 40) 40 (prune (lv 40) env) σ (finQ (cx w0) Tryd.f16 n R)) (finQ (cx w0) Tryd.f16 n R)
def q8 : QT := blockQ 0 (q5 Z w0 n R)
def q9 : QT := thenQ (fun env σ => Z (cAt code 8) 8 (prune (lv 8) env) σ (q8 Z w0 n R)) (q8 Z w0 n R)
def q16 : QT := thenQ (fun env σ => Z (cAt code 39) 39 (prune (lv 39) env) σ (q9 Z w0 n R)) (q9 Z w0 n R)
def q17 : QT := blockQ 1 (q16 Z w0 n R)
def q20 : QT := thenQ (fun env σ => Z (cAt code 38) 38 (prune (lv 38) env) σ (q17 Z w0 n R)) (q17 Z w0 n R)
def q23 : QT := blockQ 2 (q20 Z w0 n R)
def q24 : QT := thenQ (fun env σ => Z (cAt code 23) 23 (prune (lv 23) env) σ (q23 Z w0 n R)) (q23 Z w0 n R)
def n8 : Prop :=
  Z (cAt code 8) 8 [(0, a), (1, b), (5, row), (6, (.pv (.int .i64 i)))] σ (q8 Z w0 n R)
def b9 : Prop :=
  pcodeX (cx w0) 67 lv n cuts Z (cAt code 9) 9 [(0, a), (1, b), (5, row), (6, (.pv (.int .i64 i)))] σ (q9 Z w0 n R)
def n23 : Prop :=
  Z (cAt code 23) 23 [(0, a), (1, b), (5, row), (6, (.pv (.int .i64 i))), (7, next), (8, (.pv (.int .i64 k)))] σ (q23 Z w0 n R)
def b24 : Prop :=
  pcodeX (cx w0) 67 lv n cuts Z (cAt code 24) 24 [(0, a), (1, b), (5, row), (6, (.pv (.int .i64 i))), (7, next), (8, (.pv (.int .i64 k)))] σ (q24 Z w0 n R)
def n37 : Prop :=
  Z (cAt code 37) 37 [(0, a), (1, b), (5, row), (6, (.pv (.int .i64 i))), (7, next), (8, (.pv (.int .i64 k)))] σ (q24 Z w0 n R)
def b37 : Prop :=
  pcodeX (cx w0) 67 lv n cuts Z (cAt code 37) 37 [(0, a), (1, b), (5, row), (6, (.pv (.int .i64 i))), (7, next), (8, (.pv (.int .i64 k)))] σ (q24 Z w0 n R)
def n38 : Prop :=
  Z (cAt code 38) 38 [(0, a), (1, b), (6, (.pv (.int .i64 i))), (7, next)] σ (q17 Z w0 n R)
def b38 : Prop :=
  pcodeX (cx w0) 67 lv n cuts Z (cAt code 38) 38 [(0, a), (1, b), (6, (.pv (.int .i64 i))), (7, next)] σ (q17 Z w0 n R)
def n39 : Prop :=
  Z (cAt code 39) 39 [(0, a), (1, b), (5, row), (6, (.pv (.int .i64 i)))] σ (q9 Z w0 n R)
def b39 : Prop :=
  pcodeX (cx w0) 67 lv n cuts Z (cAt code 39) 39 [(0, a), (1, b), (5, row), (6, (.pv (.int .i64 i)))] σ (q9 Z w0 n R)
def n40 : Prop :=
  Z (cAt code 40) 40 [(1, b), (5, row)] σ (finQ (cx w0) Tryd.f16 n R)
def b40 : Prop :=
  pcodeX (cx w0) 67 lv n cuts Z (cAt code 40) 40 [(1, b), (5, row)] σ (finQ (cx w0) Tryd.f16 n R)
def b0 : Prop :=
  pcodeX (cx w0) 67 lv n cuts Z code 0 (argsE 0 [a, b]) σ (finQ (cx w0) Tryd.f16 n R)
end
variable {Z : XT} {w0 : Base} {n : Nat} {R : RT} {σ τ : Store} {a b row next a' b' row' next' : AV} {i k i' k' : Int}
theorem n8_in (h : b9 (X w0 n) w0 n R σ a b row i) : n8 (X w0 n) w0 n R σ a b row i := xr_round (cxOK w0) (S := cuts) (by kernel_rfl : cAt code 8 = .loop (cAt code 9)) h
theorem n8_weak (e : EWeak (cx w0) n [(0, a), (1, b), (5, row), (6, (.pv (.int .i64 i)))] σ [(0, a'), (1, b'), (5, row'), (6, (.pv (.int .i64 i')))] τ) (h : n8 (X w0 n) w0 n R τ a' b' row' i') : n8 (X w0 n) w0 n R σ a b row i := xr_weak (L := lv) (k := 8) (by kernel_rfl : cAt code 8 = .loop (cAt code 9)) e h
theorem b9_eq : b9 Z w0 n R σ a b row i = (
  opt (aLen ti43.td a) fun t15 => isI .i64 t15 fun t15_1 => condB (decide ((i : Int) < t15_1)) (opt (aLen ti43.td b) fun t20 => isI .i64 t20 fun t20_1 => opt2 (aMakeSlice σ ti3 (IntKind.wrap .i64 (t20_1 + 1)) (IntKind.wrap .i64 (t20_1 + 1))) fun t22 σ' => n23 Z w0 n R σ' a b row i t22 0) (n40 Z w0 n R σ b row)) := by kernel_rfl
theorem n23_in (h : b24 (X w0 n) w0 n R σ a b row i next k) : n23 (X w0 n) w0 n R σ a b row i next k := xr_round (cxOK w0) (S := cuts) (by kernel_rfl : cAt code 23 = .loop (cAt code 24)) h
theorem b24_eq : b24 Z w0 n R σ a b row i next k = (
  opt (aLen ti43.td b) fun t25 => isI .i64 t25 fun t25_1 => condB (decide ((k : Int) < t25_1)) (opt (aIndexAddr σ tabS ti43.td a i) fun t31 => opt (aLoad σ ti3 t31) fun t32 => isI .i64 t32 fun t32_1 => opt (aIndexAddr σ tabS ti43.td b k) fun t35 => opt (aLoad σ ti3 t35) fun t36 => isI .i64 t36 fun t36_1 => condB ((t32_1 : Int) == t36_1) (opt (aIndexAddr σ tabS ti43.td row k) fun t43 => opt (aLoad σ ti3 t43) fun t44 => isI .i64 t44 fun t44_1 => opt (aIndexAddr σ tabS ti43.td next (IntKind.wrap .i64 (k + 1))) fun t46 => opt (aStore σ ti3 t46 (.pv (.int .i64 (IntKind.wrap .i64 (t44_1 + 1))))) fun σ' => n37 Z w0 n R σ' a b row i next k) (opt (aIndexAddr σ tabS ti43.td row (IntKind.wrap .i64 (k + 1))) fun t53 => opt (aLoad σ ti3 t53) fun t54 => isI .i64 t54 fun t54_1 => opt (aIndexAddr σ tabS ti43.td next k) fun t57 => opt (aLoad σ ti3 t57) fun t58 => isI .i64 t58 fun t58_1 => opt (aIndexAddr σ tabS ti43.td next (IntKind.wrap .i64 (k + 1))) fun t60 => opt (aStore σ ti3 t60 (.pv (.int .i64 (if (t58_1 : Int) > t54_1 then t58_1 else t54_1)))) fun σ' => n37 Z w0 n R σ' a b row i next k)) (n38 Z w0 n R σ a b i next)) := by kernel_rfl
theorem b37_eq : b37 Z w0 n R σ a b row i next k = (
  n23 Z w0 n R σ a b row i next (IntKind.wrap .i64 (k + 1))) := by kernel_rfl
theorem n37_in (h : b37 (X w0 n) w0 n R σ a b row i next k) : n37 (X w0 n) w0 n R σ a b row i next k := xr_in (S := cuts) (by kernel_rfl) h
theorem b38_eq : b38 Z w0 n R σ a b i next = (
  n39 Z w0 n R σ a b next i) := by kernel_rfl
theorem n38_in (h : b38 (X w0 n) w0 n R σ a b i next) : n38 (X w0 n) w0 n R σ a b i next := xr_in (S := cuts) (by kernel_rfl) h
theorem b39_eq : b39 Z w0 n R σ a b row i = (
  n8 Z w0 n R σ a b row (IntKind.wrap .i64 (i + 1))) := by kernel_rfl
theorem n39_in (h : b39 (X w0 n) w0 n R σ a b row i) : n39 (X w0 n) w0 n R σ a b row i := xr_in (S := cuts) (by kernel_rfl) h
theorem b40_eq : b40 Z w0 n R σ b row = (
  opt (aLen ti43.td b) fun t64 => isI .i64 t64 fun t64_1 => opt (aIndexAddr σ tabS ti43.td row t64_1) fun t65 => opt (aLoad σ ti3 t65) fun t66 => isI .i64 t66 fun t66_1 => FinK (cx w0) n (.pv (.int .i64 t66_1)) σ R) := by kernel_rfl
theorem n40_in (h : b40 (X w0 n) w0 n R σ b row) : n40 (X w0 n) w0 n R σ b row := xr_in (S := cuts) (by kernel_rfl) h
theorem b0_eq : b0 Z w0 n R σ a b = (
  opt (aLen ti43.td b) fun t10 => isI .i64 t10 fun t10_1 => opt2 (aMakeSlice σ ti3 (IntKind.wrap .i64 (t10_1 + 1)) (IntKind.wrap .i64 (t10_1 + 1))) fun t12 σ' => n8 Z w0 n R σ' a b t12 0) := by kernel_rfl
theorem calls (h : b0 (X w0 (List.length σ)) w0 (List.length σ) R σ a b) : SCalls (cx w0) selvageref07_Common.id [a, b] σ R :=
  xr_enter (cxOK w0) (x := fe) (S := cuts) (selvageref07_Common.ok w0) (by kernel_rfl) h
attribute [irreducible] n8 b9 n23 b24 n37 b37 n38 b38 n39 b39 n40 b40 b0
end selvageref07_Common
namespace selvageref01_Split
def lvs : List (List Nat) := [[0], [0], [0], [0], [0, 3], [0, 3], [0, 3, 4], [0, 3, 4], [0, 3, 4], [0, 3, 4, 5], [0, 3, 4, 5], [0, 3, 4, 5], [0, 3, 4, 5], [0, 3, 4, 5], [0, 3, 4, 5, 9], [0, 3, 4, 5], [0, 3, 4], [0, 3, 4, 5], [0, 3, 4, 5], [0, 3, 4, 5], [0, 3, 4, 5], [0, 3, 4, 5, 15], [0, 3, 4, 5], [0, 3, 4, 5], [0, 3, 5], [0, 3, 4, 5], [0, 3, 4, 5], [0, 3, 4], [0, 3, 4], [0, 3, 4], [0, 3, 4, 29], [0, 3, 4], [3], [3], [3], [2]]
def lv : Nat → List Nat := lvOf lvs
noncomputable def code : Code := bodyOf Tryd.f14
noncomputable def fe : FE := ⟨Tryd.f14, code, lv⟩
def cuts : List Nat := [11, 26, 27, 33]
abbrev X (w0 : Base) (n : Nat) : XT := xr (cx w0) 37 lv n
theorem ok (w0 : Base) : FOK (cx w0) selvageref01_Split.id fe := ⟨Tryd.func14, by kernel_rfl, by kernel_rfl⟩
section
variable (Z : XT) (w0 : Base) (n : Nat) (R : RT) (σ : Store) (s : List UInt8) (out : AV) (from_ i : Int)
def q7 : QT := thenQ (fun env σ => Z (cAt code 27) 27 (prune (lv 27) env) σ (finQ (cx w0) Tryd.f14 n R)) (finQ (cx w0) Tryd.f14 n R)
def q10 : QT := blockQ 0 (q7 Z w0 n R)
def q11 : QT := thenQ (fun env σ => Z (cAt code 10) 10 (prune (lv 10) env) σ (q10 Z w0 n R)) (q10 Z w0 n R)
def n10 : Prop :=
  Z (cAt code 10) 10 [(0, (.pv (.str s))), (3, out), (4, (.pv (.int .i64 from_))), (5, (.pv (.int .i64 i)))] σ (q10 Z w0 n R)
def b11 : Prop :=
  pcodeX (cx w0) 37 lv n cuts Z (cAt code 11) 11 [(0, (.pv (.str s))), (3, out), (4, (.pv (.int .i64 from_))), (5, (.pv (.int .i64 i)))] σ (q11 Z w0 n R)
def n26 : Prop :=
  Z (cAt code 26) 26 [(0, (.pv (.str s))), (3, out), (4, (.pv (.int .i64 from_))), (5, (.pv (.int .i64 i)))] σ (q11 Z w0 n R)
def b26 : Prop :=
  pcodeX (cx w0) 37 lv n cuts Z (cAt code 26) 26 [(0, (.pv (.str s))), (3, out), (4, (.pv (.int .i64 from_))), (5, (.pv (.int .i64 i)))] σ (q11 Z w0 n R)
def n27 : Prop :=
  Z (cAt code 27) 27 [(0, (.pv (.str s))), (3, out), (4, (.pv (.int .i64 from_)))] σ (finQ (cx w0) Tryd.f14 n R)
def b27 : Prop :=
  pcodeX (cx w0) 37 lv n cuts Z (cAt code 27) 27 [(0, (.pv (.str s))), (3, out), (4, (.pv (.int .i64 from_)))] σ (finQ (cx w0) Tryd.f14 n R)
def n33 : Prop :=
  Z (cAt code 33) 33 [(3, out)] σ (finQ (cx w0) Tryd.f14 n R)
def b33 : Prop :=
  pcodeX (cx w0) 37 lv n cuts Z (cAt code 33) 33 [(3, out)] σ (finQ (cx w0) Tryd.f14 n R)
def b0 : Prop :=
  pcodeX (cx w0) 37 lv n cuts Z code 0 (argsE 0 [(.pv (.str s))]) σ (finQ (cx w0) Tryd.f14 n R)
end
variable {Z : XT} {w0 : Base} {n : Nat} {R : RT} {σ τ : Store} {s s' : List UInt8} {out out' : AV} {from_ i from_' i' : Int}
theorem n10_in (h : b11 (X w0 n) w0 n R σ s out from_ i) : n10 (X w0 n) w0 n R σ s out from_ i := xr_round (cxOK w0) (S := cuts) (by kernel_rfl : cAt code 10 = .loop (cAt code 11)) h
theorem n10_weak (e : EWeak (cx w0) n [(0, (.pv (.str s))), (3, out), (4, (.pv (.int .i64 from_))), (5, (.pv (.int .i64 i)))] σ [(0, (.pv (.str s'))), (3, out'), (4, (.pv (.int .i64 from_'))), (5, (.pv (.int .i64 i')))] τ) (h : n10 (X w0 n) w0 n R τ s' out' from_' i') : n10 (X w0 n) w0 n R σ s out from_ i := xr_weak (L := lv) (k := 10) (by kernel_rfl : cAt code 10 = .loop (cAt code 11)) e h
theorem b11_eq : b11 Z w0 n R σ s out from_ i = (
  condB (decide ((i : Int) < (List.length (s : List UInt8) : Int))) (opt (aIndex tabS ti9.td (.pv (.str s)) i) fun t14 => isI .u8 t14 fun t14_1 => condB ((t14_1 : Int) == 10) (opt (aSlice σ tabS ti9.td (.pv (.str s)) (some (.pv (.int .i64 from_))) (some (.pv (.int .i64 (IntKind.wrap .i64 (i + 1)))))) fun t21 => isS t21 fun t21_1 => opt2 (aBuildSlice σ ti9 false 1 [(0, (.pv (.str t21_1)))]) fun t22 σ' => opt2 (aAppend σ' ti9 out t22) fun t23 σ'_1 => n26 Z w0 n R σ'_1 s t23 (IntKind.wrap .i64 (i + 1)) i) (n26 Z w0 n R σ s out from_ i)) (n27 Z w0 n R σ s out from_)) := by kernel_rfl
theorem b26_eq : b26 Z w0 n R σ s out from_ i = (
  n10 Z w0 n R σ s out from_ (IntKind.wrap .i64 (i + 1))) := by kernel_rfl
theorem n26_in (h : b26 (X w0 n) w0 n R σ s out from_ i) : n26 (X w0 n) w0 n R σ s out from_ i := xr_in (S := cuts) (by kernel_rfl) h
theorem b27_eq : b27 Z w0 n R σ s out from_ = (
  condB (decide ((from_ : Int) < (List.length (s : List UInt8) : Int))) (opt (aSlice σ tabS ti9.td (.pv (.str s)) (some (.pv (.int .i64 from_))) none) fun t33 => isS t33 fun t33_1 => opt2 (aBuildSlice σ ti9 false 1 [(0, (.pv (.str t33_1)))]) fun t34 σ' => opt2 (aAppend σ' ti9 out t34) fun t35 σ'_1 => n33 Z w0 n R σ'_1 t35) (n33 Z w0 n R σ out)) := by kernel_rfl
theorem n27_in (h : b27 (X w0 n) w0 n R σ s out from_) : n27 (X w0 n) w0 n R σ s out from_ := xr_in (S := cuts) (by kernel_rfl) h
theorem b33_eq : b33 Z w0 n R σ out = (
  FinK (cx w0) n out σ R) := by kernel_rfl
theorem n33_in (h : b33 (X w0 n) w0 n R σ out) : n33 (X w0 n) w0 n R σ out := xr_in (S := cuts) (by kernel_rfl) h
theorem b0_eq : b0 Z w0 n R σ s = (
  n10 Z w0 n R σ s .nilsl 0 0) := by kernel_rfl
theorem calls (h : b0 (X w0 (List.length σ)) w0 (List.length σ) R σ s) : SCalls (cx w0) selvageref01_Split.id [(.pv (.str s))] σ R :=
  xr_enter (cxOK w0) (x := fe) (S := cuts) (selvageref01_Split.ok w0) (by kernel_rfl) h
attribute [irreducible] n10 b11 n26 b26 n27 b27 n33 b33 b0
end selvageref01_Split
namespace selvageref01_Bare
def lvs : List (List Nat) := [[0], [0], [0], [0], [0], [0, 4], [0], [0], [2], [0], [0], [0], [2]]
def lv : Nat → List Nat := lvOf lvs
noncomputable def code : Code := bodyOf Tryd.f36
noncomputable def fe : FE := ⟨Tryd.f36, code, lv⟩
def cuts : List Nat := []
abbrev X (w0 : Base) (n : Nat) : XT := xr (cx w0) 11 lv n
theorem ok (w0 : Base) : FOK (cx w0) selvageref01_Bare.id fe := ⟨Tryd.func36, by kernel_rfl, by kernel_rfl⟩
section
variable (Z : XT) (w0 : Base) (n : Nat) (R : RT) (σ : Store) (line : List UInt8)
def b0 : Prop :=
  pcodeX (cx w0) 11 lv n cuts Z code 0 (argsE 0 [(.pv (.str line))]) σ (finQ (cx w0) Tryd.f36 n R)
end
variable {Z : XT} {w0 : Base} {n : Nat} {R : RT} {σ τ : Store} {line : List UInt8}
theorem b0_eq : b0 Z w0 n R σ line = (
  SCalls (cx w0) selvageref01_Whole.id [(.pv (.str line))] σ fun r σ' => isB r fun t4 => condB t4 (opt (aSlice σ' tabS ti9.td (.pv (.str line)) none (some (.pv (.int .i64 (IntKind.wrap .i64 ((List.length (line : List UInt8) : Int) - 1)))))) fun t9 => isS t9 fun t9_1 => FinK (cx w0) n (.pv (.str t9_1)) σ' R) (FinK (cx w0) n (.pv (.str line)) σ' R)) := by kernel_rfl
theorem calls (h : b0 (X w0 (List.length σ)) w0 (List.length σ) R σ line) : SCalls (cx w0) selvageref01_Bare.id [(.pv (.str line))] σ R :=
  xr_enter (cxOK w0) (x := fe) (S := cuts) (selvageref01_Bare.ok w0) (by kernel_rfl) h
attribute [irreducible] b0
end selvageref01_Bare
namespace selvageref01_Whole
def lvs : List (List Nat) := [[0], [0], [0], [0], [2]]
def lv : Nat → List Nat := lvOf lvs
noncomputable def code : Code := bodyOf Tryd.f49
noncomputable def fe : FE := ⟨Tryd.f49, code, lv⟩
def cuts : List Nat := [4]
abbrev X (w0 : Base) (n : Nat) : XT := xr (cx w0) 14 lv n
theorem ok (w0 : Base) : FOK (cx w0) selvageref01_Whole.id fe := ⟨Tryd.func49, by kernel_rfl, by kernel_rfl⟩
section
variable (Z : XT) (w0 : Base) (n : Nat) (R : RT) (σ : Store) (t2 : Bool) (line : List UInt8)
def n4 : Prop :=
  Z (cAt code 4) 4 [(2, (.pv (.bool t2)))] σ (finQ (cx w0) Tryd.f49 n R)
def b4 : Prop :=
  pcodeX (cx w0) 14 lv n cuts Z (cAt code 4) 4 [(2, (.pv (.bool t2)))] σ (finQ (cx w0) Tryd.f49 n R)
def b0 : Prop :=
  pcodeX (cx w0) 14 lv n cuts Z code 0 (argsE 0 [(.pv (.str line))]) σ (finQ (cx w0) Tryd.f49 n R)
end
variable {Z : XT} {w0 : Base} {n : Nat} {R : RT} {σ τ : Store} {t2 : Bool} {line : List UInt8}
theorem b4_eq : b4 Z w0 n R σ t2 = (
  FinK (cx w0) n (.pv (.bool t2)) σ R) := by kernel_rfl
theorem n4_in (h : b4 (X w0 n) w0 n R σ t2) : n4 (X w0 n) w0 n R σ t2 := xr_in (S := cuts) (by kernel_rfl) h
theorem b0_eq : b0 Z w0 n R σ line = (
  condB (decide (((List.length (line : List UInt8) : Int) : Int) > 0)) (opt (aIndex tabS ti9.td (.pv (.str line)) (IntKind.wrap .i64 ((List.length (line : List UInt8) : Int) - 1))) fun t11 => isI .u8 t11 fun t11_1 => n4 Z w0 n R σ ((t11_1 : Int) == 10)) (n4 Z w0 n R σ false)) := by kernel_rfl
theorem calls (h : b0 (X w0 (List.length σ)) w0 (List.length σ) R σ line) : SCalls (cx w0) selvageref01_Whole.id [(.pv (.str line))] σ R :=
  xr_enter (cxOK w0) (x := fe) (S := cuts) (selvageref01_Whole.ok w0) (by kernel_rfl) h
attribute [irreducible] n4 b4 b0
end selvageref01_Whole
end Go.Sv
