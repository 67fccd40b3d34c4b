/- What the code of Go functions comes to over abstract stores, piece by piece; each equation by the kernel. Printed by a program of this session. -/
import Derived.Test.YtimmjplgogpglaaDoorSvT
import Derived.KernelRfl
set_option linter.unusedVariables false
set_option maxRecDepth 100000
set_option maxHeartbeats 2000000
namespace Go.Sv
open Go Go.Proofs
namespace myers_wrap
def lvs : List (List Nat) := [[0, 1], [0, 1], [0, 1], [0, 1], [4]]
def lv : Nat → List Nat := lvOf lvs
noncomputable def code : Code := bodyOf Tryd.f61
noncomputable def fe : FE := ⟨Tryd.f61, code, lv⟩
def cuts : List Nat := []
abbrev X (w0 : Base) (n : Nat) : XT := xr (cx w0) 12 lv n
theorem ok (w0 : Base) : FOK (cx w0) myers_wrap.id fe := ⟨Tryd.func61, by kernel_rfl, by kernel_rfl⟩
section
variable (Z : XT) (w0 : Base) (n : Nat) (R : RT) (σ : Store) (k n_ : Int)
def b0 : Prop :=
  pcodeX (cx w0) 12 lv n cuts Z code 0 (argsE 0 [(.pv (.int .i64 k)), (.pv (.int .i64 n_))]) σ (finQ (cx w0) Tryd.f61 n R)
end
variable {Z : XT} {w0 : Base} {n : Nat} {R : RT} {σ τ : Store} {k n_ : Int}
theorem b0_eq : b0 Z w0 n R σ k n_ = (
  ((n_ : Int) ≠ 0 ∧ (((n_ : Int) ≠ 0 ∧ (FinK (cx w0) n (.pv (.int .i64 (Int.tmod (IntKind.wrap .i64 ((Int.tmod k n_) + n_)) n_))) σ R))))) := by kernel_rfl
theorem calls (h : b0 (X w0 (List.length σ)) w0 (List.length σ) R σ k n_) : SCalls (cx w0) myers_wrap.id [(.pv (.int .i64 k)), (.pv (.int .i64 n_))] σ R :=
  xr_enter (cxOK w0) (x := fe) (S := cuts) (myers_wrap.ok w0) (by kernel_rfl) h
attribute [irreducible] b0
end myers_wrap
namespace myers_snake
def lvs : List (List Nat) := [[0, 1], [0, 1], [0, 1], [0, 1], [0, 1, 8, 9], [0, 1, 8, 9], [0, 1, 8, 9, 10], [0, 1, 8, 9, 10], [0, 1, 8, 9, 10, 11, 12], [0, 1, 8, 9, 10, 11, 12], [0, 1, 8, 9, 10, 11, 12, 13], [0, 1, 8, 9, 10, 11, 12, 13], [0, 1, 8, 9, 10, 11, 12, 13, 14], [0, 1, 8, 9, 10, 11, 12, 13, 14], [0, 1, 8, 9, 10, 11, 12, 13, 14], [0, 1, 8, 9, 10, 11, 12, 13, 14], [0, 1, 8, 9, 10, 11, 12, 13, 14], [0, 1, 8, 9, 10, 11, 12, 13, 14], [0, 1, 8, 9, 10, 11, 12, 13, 14, 44, 45, 46], [0, 1, 8, 9, 10, 11, 12, 13, 14, 44, 45, 46], [0, 1, 8, 9, 10, 11, 12, 13, 14, 44, 45, 46], [0, 1, 8, 9, 10, 11, 12, 13, 14, 44, 45, 46], [0, 1, 8, 9, 10, 11, 12, 13, 14, 44, 45, 46, 47], [0, 1, 8, 9, 10, 11, 12, 13, 14, 44, 45, 46, 47], [0, 1, 8, 9, 10, 11, 12, 13, 14, 44, 45, 46], [0, 1, 8, 9, 10, 11, 12, 13, 14], [0, 1, 8, 9, 10, 11, 12, 13, 14, 44, 45, 46], [0, 1, 8, 9, 10, 11, 12, 13, 14, 44, 45, 46], [0, 1, 8, 9, 10, 11, 12, 13, 14, 44, 45, 46], [0, 1, 8, 9, 10, 11, 12, 13, 14, 44, 45, 46], [0, 1, 8, 9, 10, 11, 12, 13, 14, 16, 44, 45, 46], [0, 1, 8, 9, 10, 11, 12, 13, 14, 16, 44, 45, 46], [0, 1, 8, 9, 10, 11, 12, 13, 14, 16, 17, 18, 44, 45, 46], [0, 1, 8, 9, 10, 11, 12, 13, 14, 16, 17, 18, 44, 45, 46], [0, 1, 8, 9, 10, 11, 12, 13, 14, 16, 17, 18, 44, 45, 46], [0, 1, 8, 9, 10, 11, 12, 13, 14, 16, 17, 18, 44, 45, 46, 53], [0, 1, 8, 9, 10, 11, 12, 13, 14, 16, 44, 45, 46], [0, 1, 8, 9, 10, 11, 12, 13, 14, 16, 17, 18, 44, 45, 46], [0, 1, 8, 9, 10, 11, 12, 13, 14, 16, 17, 18, 44, 45, 46], [0, 1, 8, 9, 10, 11, 12, 13, 14, 16, 17, 18, 44, 45, 46], [0, 1, 8, 9, 10, 11, 12, 13, 14, 16, 17, 18, 19, 44, 45, 46], [0, 1, 8, 9, 10, 11, 12, 13, 14, 16, 17, 18, 19, 44, 45, 46], [0, 1, 8, 9, 10, 11, 12, 13, 14, 16, 17, 18, 19, 44, 45, 46], [0, 1, 8, 9, 10, 11, 12, 13, 14, 16, 17, 18, 19, 44, 45, 46], [0, 1, 8, 9, 10, 11, 12, 13, 14, 16, 17, 18, 19, 44, 45, 46], [0, 1, 8, 9, 10, 11, 12, 13, 14, 16, 17, 18, 19, 44, 45, 46, 72], [0, 1, 8, 9, 10, 11, 12, 13, 14, 16, 17, 18, 19, 44, 45, 46], [0, 1, 8, 9, 10, 11, 12, 13, 14, 44, 45, 46], [0, 1, 8, 9, 10, 11, 12, 13, 14, 16, 17, 18, 19, 44, 45, 46], [0, 1, 8, 9, 10, 11, 12, 13, 14, 16, 17, 18, 19, 44, 45, 46], [0, 1, 8, 9, 10, 11, 12, 13, 14, 16, 17, 18, 19, 44, 45, 46], [0, 1, 8, 9, 10, 11, 12, 13, 14, 16, 17, 18, 19, 44, 45, 46], [0, 1, 8, 9, 10, 11, 12, 13, 14, 16, 17, 18, 19, 44, 45, 46], [0, 1, 8, 9, 10, 11, 12, 13, 14, 16, 17, 18, 19, 44, 45, 46], [0, 1, 8, 9, 10, 11, 12, 13, 14, 16, 17, 18, 19, 44, 45, 46], [0, 1, 8, 9, 10, 11, 12, 13, 14, 16, 17, 18, 19, 44, 45, 46, 100], [0, 1, 8, 9, 10, 11, 12, 13, 14, 16, 17, 18, 19, 44, 45, 46], [0, 1, 8, 9, 10, 11, 12, 13, 14, 16, 17, 18, 19, 44, 45, 46], [0, 1, 8, 9, 10, 11, 12, 13, 14, 16, 17, 18, 19, 20, 44, 45, 46], [0, 1, 8, 9, 10, 11, 12, 13, 14, 16, 17, 18, 19, 20, 44, 45, 46], [0, 1, 8, 9, 10, 11, 12, 13, 14, 16, 17, 18, 19, 20, 21, 44, 45, 46], [0, 1, 8, 9, 10, 11, 12, 13, 14, 16, 17, 18, 19, 20, 21, 44, 45, 46], [0, 1, 8, 9, 10, 11, 12, 13, 14, 16, 17, 18, 19, 20, 21, 22, 23, 44, 45, 46], [0, 1, 8, 9, 10, 11, 12, 13, 14, 16, 17, 18, 19, 20, 21, 22, 23, 44, 45, 46], [0, 1, 8, 9, 10, 11, 12, 13, 14, 16, 17, 18, 19, 20, 21, 22, 23, 44, 45, 46], [0, 1, 8, 9, 10, 11, 12, 13, 14, 16, 17, 18, 19, 20, 21, 22, 23, 44, 45, 46], [0, 1, 8, 9, 10, 11, 12, 13, 14, 16, 17, 18, 19, 20, 21, 22, 23, 44, 45, 46], [0, 1, 8, 9, 10, 11, 12, 13, 14, 16, 17, 18, 19, 20, 21, 22, 23, 44, 45, 46], [0, 1, 8, 9, 10, 11, 12, 13, 14, 16, 17, 18, 19, 20, 21, 22, 23, 44, 45, 46, 164], [0, 1, 8, 9, 10, 11, 12, 13, 14, 16, 17, 18, 19, 20, 21, 22, 23, 44, 45, 46], [0, 1, 8, 9, 10, 11, 12, 13, 14, 16, 17, 18, 19, 20, 21, 22, 23, 44, 45, 46], [0, 1, 8, 9, 10, 11, 12, 13, 14, 16, 17, 18, 19, 20, 21, 22, 23, 44, 45, 46], [0, 1, 8, 9, 10, 11, 12, 13, 14, 16, 17, 18, 19, 20, 21, 22, 23, 44, 45, 46], [0, 1, 8, 9, 10, 11, 12, 13, 14, 16, 17, 18, 19, 20, 21, 22, 23, 44, 45, 46], [0, 1, 8, 9, 10, 11, 12, 13, 14, 16, 17, 18, 19, 20, 21, 22, 23, 44, 45, 46], [0, 1, 8, 9, 10, 11, 12, 13, 14, 16, 17, 18, 19, 20, 21, 22, 23, 44, 45, 46], [0, 1, 8, 9, 10, 11, 12, 13, 14, 16, 17, 18, 19, 20, 21, 22, 23, 44, 45, 46], [0, 1, 8, 9, 10, 11, 12, 13, 14, 16, 17, 18, 19, 20, 21, 22, 23, 44, 45, 46], [0, 1, 8, 9, 10, 11, 12, 13, 14, 16, 17, 18, 19, 20, 21, 22, 23, 44, 45, 46], [0, 1, 8, 9, 10, 11, 12, 13, 14, 16, 17, 18, 19, 20, 21, 22, 23, 24, 44, 45, 46], [0, 1, 8, 9, 10, 11, 12, 13, 14, 16, 17, 18, 19, 20, 21, 22, 23, 24, 44, 45, 46], [0, 1, 8, 9, 10, 11, 12, 13, 14, 16, 17, 18, 19, 20, 21, 22, 23, 24, 44, 45, 46], [0, 1, 8, 9, 10, 11, 12, 13, 14, 16, 17, 18, 19, 20, 21, 22, 23, 44, 45, 46, 209], [0, 1, 8, 9, 10, 11, 12, 13, 14, 16, 17, 18, 19, 44, 45, 46], [8, 9, 16, 20, 21, 22, 23], [8, 9, 16, 20, 21, 22, 23], [8, 9, 16, 20, 21, 22, 23], [8, 9, 16, 20, 21, 22, 23], [8, 9, 20, 21, 22, 23, 211], [20, 21, 22, 23], [20, 21, 22, 23], [4, 5, 6, 7], [8, 9, 20, 21, 22, 23], [8, 9, 20, 21, 22, 23], [8, 9, 20, 21, 22, 23], [4, 5, 6, 7], [0, 1, 8, 9, 10, 11, 12, 13, 14, 16, 17, 18, 19, 44, 45, 46], [0, 1, 8, 9, 10, 11, 12, 13, 14, 44, 45, 46], [0, 1, 8, 9, 10, 11, 12, 13, 14]]
def lv : Nat → List Nat := lvOf lvs
noncomputable def code : Code := bodyOf Tryd.f56
noncomputable def fe : FE := ⟨Tryd.f56, code, lv⟩
def cuts : List Nat := [14, 20, 38, 42, 55, 58, 65, 68, 75, 82, 96, 97, 98]
abbrev X (w0 : Base) (n : Nat) : XT := xr (cx w0) 229 lv n
theorem ok (w0 : Base) : FOK (cx w0) myers_snake.id fe := ⟨Tryd.func56, by kernel_rfl, by kernel_rfl⟩
section
variable (Z : XT) (w0 : Base) (n : Nat) (R : RT) (σ : Store) (a b : AV) (n_ m size : Int) (ahead back : AV) (odd h_ o : Int) (c d : AV) (k x y s t : Int) (t44 : AV) (t45 t46 : Int) (t100 t164 t209 : Bool)
def q13 (X : XT) (w0 : Base) (n : Nat) (R : RT) : QT := blockQ 0 (finQ (cx w0) Tryd.f56 n R)
def q14 : QT := thenQ (fun env σ => Z (cAt code 13) 13 (prune (lv 13) env) σ (q13 Z w0 n R)) (q13 Z w0 n R)
def q15 : QT := thenQ (fun env σ => Z (cAt code 98) 98 (prune (lv 98) env) σ (q14 Z w0 n R)) (q14 Z w0 n R)
def q16 : QT := blockQ 1 (q15 Z w0 n R)
def q19 : QT := blockQ 2 (q16 Z w0 n R)
def q20 : QT := thenQ (fun env σ => Z (cAt code 19) 19 (prune (lv 19) env) σ (q19 Z w0 n R)) (q19 Z w0 n R)
def q27 : QT := thenQ (fun env σ => Z (cAt code 97) 97 (prune (lv 97) env) σ (q20 Z w0 n R)) (q20 Z w0 n R)
def q28 : QT := blockQ 3 (q27 Z w0 n R)
def q41 : QT := blockQ 4 (q28 Z w0 n R)
def q42 : QT := thenQ (fun env σ => Z (cAt code 41) 41 (prune (lv 41) env) σ (q41 Z w0 n R)) (q41 Z w0 n R)
def q49 : QT := thenQ (fun env σ => Z (cAt code 96) 96 (prune (lv 96) env) σ (q42 Z w0 n R)) (q42 Z w0 n R)
def q50 : QT := blockQ 5 (q49 Z w0 n R)
def q53 : QT := thenQ (fun env σ => Z (cAt code 58) 58 (prune (lv 58) env) σ (q50 Z w0 n R)) (q50 Z w0 n R)
def q63 : QT := thenQ (fun env σ => Z (cAt code 75) 75 (prune (lv 75) env) σ (q50 Z w0 n R)) (q50 Z w0 n R)
def q64 : QT := blockQ 6 (q63 Z w0 n R)
def q65 : QT := thenQ (fun env σ => Z (cAt code 64) 64 (prune (lv 64) env) σ (q64 Z w0 n R)) (q64 Z w0 n R)
def q66 : QT := thenQ (fun env σ => pcodeX (cx w0) 229 lv n cuts Z (cAt code 71) 71 (prune (lv 71) env) σ (q65 Z w0 n R)) (q65 Z w0 n R)
def q80 : QT := thenQ (fun env σ => pcodeX (cx w0) 229 lv n cuts Z (cAt code 85) 85 (prune (lv 85) env) σ (q50 Z w0 n R)) (q50 Z w0 n R)
def n13 : Prop :=
  Z (cAt code 13) 13 [(0, a), (1, b), (8, (.pv (.int .i64 n_))), (9, (.pv (.int .i64 m))), (10, (.pv (.int .i64 size))), (11, ahead), (12, back), (13, (.pv (.int .i64 odd))), (14, (.pv (.int .i64 h_)))] σ (q13 Z w0 n R)
def b14 : Prop :=
  pcodeX (cx w0) 229 lv n cuts Z (cAt code 14) 14 [(0, a), (1, b), (8, (.pv (.int .i64 n_))), (9, (.pv (.int .i64 m))), (10, (.pv (.int .i64 size))), (11, ahead), (12, back), (13, (.pv (.int .i64 odd))), (14, (.pv (.int .i64 h_)))] σ (q14 Z w0 n R)
def n19 : Prop :=
  Z (cAt code 19) 19 [(0, a), (1, b), (8, (.pv (.int .i64 n_))), (9, (.pv (.int .i64 m))), (10, (.pv (.int .i64 size))), (11, ahead), (12, back), (13, (.pv (.int .i64 odd))), (14, (.pv (.int .i64 h_))), (44, t44), (45, (.pv (.int .i64 t45))), (46, (.pv (.int .i64 t46)))] σ (q19 Z w0 n R)
def b20 : Prop :=
  pcodeX (cx w0) 229 lv n cuts Z (cAt code 20) 20 [(0, a), (1, b), (8, (.pv (.int .i64 n_))), (9, (.pv (.int .i64 m))), (10, (.pv (.int .i64 size))), (11, ahead), (12, back), (13, (.pv (.int .i64 odd))), (14, (.pv (.int .i64 h_))), (44, t44), (45, (.pv (.int .i64 t45))), (46, (.pv (.int .i64 t46)))] σ (q20 Z w0 n R)
def n38 : Prop :=
  Z (cAt code 38) 38 [(0, a), (1, b), (8, (.pv (.int .i64 n_))), (9, (.pv (.int .i64 m))), (10, (.pv (.int .i64 size))), (11, ahead), (12, back), (13, (.pv (.int .i64 odd))), (14, (.pv (.int .i64 h_))), (16, (.pv (.int .i64 o))), (17, c), (18, d), (44, t44), (45, (.pv (.int .i64 t45))), (46, (.pv (.int .i64 t46)))] σ (q28 Z w0 n R)
def b38 : Prop :=
  pcodeX (cx w0) 229 lv n cuts Z (cAt code 38) 38 [(0, a), (1, b), (8, (.pv (.int .i64 n_))), (9, (.pv (.int .i64 m))), (10, (.pv (.int .i64 size))), (11, ahead), (12, back), (13, (.pv (.int .i64 odd))), (14, (.pv (.int .i64 h_))), (16, (.pv (.int .i64 o))), (17, c), (18, d), (44, t44), (45, (.pv (.int .i64 t45))), (46, (.pv (.int .i64 t46)))] σ (q28 Z w0 n R)
def n41 : Prop :=
  Z (cAt code 41) 41 [(0, a), (1, b), (8, (.pv (.int .i64 n_))), (9, (.pv (.int .i64 m))), (10, (.pv (.int .i64 size))), (11, ahead), (12, back), (13, (.pv (.int .i64 odd))), (14, (.pv (.int .i64 h_))), (16, (.pv (.int .i64 o))), (17, c), (18, d), (19, (.pv (.int .i64 k))), (44, t44), (45, (.pv (.int .i64 t45))), (46, (.pv (.int .i64 t46)))] σ (q41 Z w0 n R)
def b42 : Prop :=
  pcodeX (cx w0) 229 lv n cuts Z (cAt code 42) 42 [(0, a), (1, b), (8, (.pv (.int .i64 n_))), (9, (.pv (.int .i64 m))), (10, (.pv (.int .i64 size))), (11, ahead), (12, back), (13, (.pv (.int .i64 odd))), (14, (.pv (.int .i64 h_))), (16, (.pv (.int .i64 o))), (17, c), (18, d), (19, (.pv (.int .i64 k))), (44, t44), (45, (.pv (.int .i64 t45))), (46, (.pv (.int .i64 t46)))] σ (q42 Z w0 n R)
def n55 : Prop :=
  Z (cAt code 55) 55 [(0, a), (1, b), (8, (.pv (.int .i64 n_))), (9, (.pv (.int .i64 m))), (10, (.pv (.int .i64 size))), (11, ahead), (12, back), (13, (.pv (.int .i64 odd))), (14, (.pv (.int .i64 h_))), (16, (.pv (.int .i64 o))), (17, c), (18, d), (19, (.pv (.int .i64 k))), (44, t44), (45, (.pv (.int .i64 t45))), (46, (.pv (.int .i64 t46))), (100, (.pv (.bool t100)))] σ (q53 Z w0 n R)
def b55 : Prop :=
  pcodeX (cx w0) 229 lv n cuts Z (cAt code 55) 55 [(0, a), (1, b), (8, (.pv (.int .i64 n_))), (9, (.pv (.int .i64 m))), (10, (.pv (.int .i64 size))), (11, ahead), (12, back), (13, (.pv (.int .i64 odd))), (14, (.pv (.int .i64 h_))), (16, (.pv (.int .i64 o))), (17, c), (18, d), (19, (.pv (.int .i64 k))), (44, t44), (45, (.pv (.int .i64 t45))), (46, (.pv (.int .i64 t46))), (100, (.pv (.bool t100)))] σ (q53 Z w0 n R)
def n58 : Prop :=
  Z (cAt code 58) 58 [(0, a), (1, b), (8, (.pv (.int .i64 n_))), (9, (.pv (.int .i64 m))), (10, (.pv (.int .i64 size))), (11, ahead), (12, back), (13, (.pv (.int .i64 odd))), (14, (.pv (.int .i64 h_))), (16, (.pv (.int .i64 o))), (17, c), (18, d), (19, (.pv (.int .i64 k))), (20, (.pv (.int .i64 x))), (44, t44), (45, (.pv (.int .i64 t45))), (46, (.pv (.int .i64 t46)))] σ (q50 Z w0 n R)
def b58 : Prop :=
  pcodeX (cx w0) 229 lv n cuts Z (cAt code 58) 58 [(0, a), (1, b), (8, (.pv (.int .i64 n_))), (9, (.pv (.int .i64 m))), (10, (.pv (.int .i64 size))), (11, ahead), (12, back), (13, (.pv (.int .i64 odd))), (14, (.pv (.int .i64 h_))), (16, (.pv (.int .i64 o))), (17, c), (18, d), (19, (.pv (.int .i64 k))), (20, (.pv (.int .i64 x))), (44, t44), (45, (.pv (.int .i64 t45))), (46, (.pv (.int .i64 t46)))] σ (q50 Z w0 n R)
def n64 : Prop :=
  Z (cAt code 64) 64 [(0, a), (1, b), (8, (.pv (.int .i64 n_))), (9, (.pv (.int .i64 m))), (10, (.pv (.int .i64 size))), (11, ahead), (12, back), (13, (.pv (.int .i64 odd))), (14, (.pv (.int .i64 h_))), (16, (.pv (.int .i64 o))), (17, c), (18, d), (19, (.pv (.int .i64 k))), (20, (.pv (.int .i64 x))), (21, (.pv (.int .i64 y))), (22, (.pv (.int .i64 s))), (23, (.pv (.int .i64 t))), (44, t44), (45, (.pv (.int .i64 t45))), (46, (.pv (.int .i64 t46)))] σ (q64 Z w0 n R)
def b65 : Prop :=
  pcodeX (cx w0) 229 lv n cuts Z (cAt code 65) 65 [(0, a), (1, b), (8, (.pv (.int .i64 n_))), (9, (.pv (.int .i64 m))), (10, (.pv (.int .i64 size))), (11, ahead), (12, back), (13, (.pv (.int .i64 odd))), (14, (.pv (.int .i64 h_))), (16, (.pv (.int .i64 o))), (17, c), (18, d), (19, (.pv (.int .i64 k))), (20, (.pv (.int .i64 x))), (21, (.pv (.int .i64 y))), (22, (.pv (.int .i64 s))), (23, (.pv (.int .i64 t))), (44, t44), (45, (.pv (.int .i64 t45))), (46, (.pv (.int .i64 t46)))] σ (q65 Z w0 n R)
def n68 : Prop :=
  Z (cAt code 68) 68 [(0, a), (1, b), (8, (.pv (.int .i64 n_))), (9, (.pv (.int .i64 m))), (10, (.pv (.int .i64 size))), (11, ahead), (12, back), (13, (.pv (.int .i64 odd))), (14, (.pv (.int .i64 h_))), (16, (.pv (.int .i64 o))), (17, c), (18, d), (19, (.pv (.int .i64 k))), (20, (.pv (.int .i64 x))), (21, (.pv (.int .i64 y))), (22, (.pv (.int .i64 s))), (23, (.pv (.int .i64 t))), (44, t44), (45, (.pv (.int .i64 t45))), (46, (.pv (.int .i64 t46))), (164, (.pv (.bool t164)))] σ (q66 Z w0 n R)
def b68 : Prop :=
  pcodeX (cx w0) 229 lv n cuts Z (cAt code 68) 68 [(0, a), (1, b), (8, (.pv (.int .i64 n_))), (9, (.pv (.int .i64 m))), (10, (.pv (.int .i64 size))), (11, ahead), (12, back), (13, (.pv (.int .i64 odd))), (14, (.pv (.int .i64 h_))), (16, (.pv (.int .i64 o))), (17, c), (18, d), (19, (.pv (.int .i64 k))), (20, (.pv (.int .i64 x))), (21, (.pv (.int .i64 y))), (22, (.pv (.int .i64 s))), (23, (.pv (.int .i64 t))), (44, t44), (45, (.pv (.int .i64 t45))), (46, (.pv (.int .i64 t46))), (164, (.pv (.bool t164)))] σ (q66 Z w0 n R)
def n75 : Prop :=
  Z (cAt code 75) 75 [(0, a), (1, b), (8, (.pv (.int .i64 n_))), (9, (.pv (.int .i64 m))), (10, (.pv (.int .i64 size))), (11, ahead), (12, back), (13, (.pv (.int .i64 odd))), (14, (.pv (.int .i64 h_))), (16, (.pv (.int .i64 o))), (17, c), (18, d), (19, (.pv (.int .i64 k))), (20, (.pv (.int .i64 x))), (21, (.pv (.int .i64 y))), (22, (.pv (.int .i64 s))), (23, (.pv (.int .i64 t))), (44, t44), (45, (.pv (.int .i64 t45))), (46, (.pv (.int .i64 t46)))] σ (q50 Z w0 n R)
def b75 : Prop :=
  pcodeX (cx w0) 229 lv n cuts Z (cAt code 75) 75 [(0, a), (1, b), (8, (.pv (.int .i64 n_))), (9, (.pv (.int .i64 m))), (10, (.pv (.int .i64 size))), (11, ahead), (12, back), (13, (.pv (.int .i64 odd))), (14, (.pv (.int .i64 h_))), (16, (.pv (.int .i64 o))), (17, c), (18, d), (19, (.pv (.int .i64 k))), (20, (.pv (.int .i64 x))), (21, (.pv (.int .i64 y))), (22, (.pv (.int .i64 s))), (23, (.pv (.int .i64 t))), (44, t44), (45, (.pv (.int .i64 t45))), (46, (.pv (.int .i64 t46)))] σ (q50 Z w0 n R)
def n82 : Prop :=
  Z (cAt code 82) 82 [(0, a), (1, b), (8, (.pv (.int .i64 n_))), (9, (.pv (.int .i64 m))), (10, (.pv (.int .i64 size))), (11, ahead), (12, back), (13, (.pv (.int .i64 odd))), (14, (.pv (.int .i64 h_))), (16, (.pv (.int .i64 o))), (17, c), (18, d), (19, (.pv (.int .i64 k))), (20, (.pv (.int .i64 x))), (21, (.pv (.int .i64 y))), (22, (.pv (.int .i64 s))), (23, (.pv (.int .i64 t))), (44, t44), (45, (.pv (.int .i64 t45))), (46, (.pv (.int .i64 t46))), (209, (.pv (.bool t209)))] σ (q80 Z w0 n R)
def b82 : Prop :=
  pcodeX (cx w0) 229 lv n cuts Z (cAt code 82) 82 [(0, a), (1, b), (8, (.pv (.int .i64 n_))), (9, (.pv (.int .i64 m))), (10, (.pv (.int .i64 size))), (11, ahead), (12, back), (13, (.pv (.int .i64 odd))), (14, (.pv (.int .i64 h_))), (16, (.pv (.int .i64 o))), (17, c), (18, d), (19, (.pv (.int .i64 k))), (20, (.pv (.int .i64 x))), (21, (.pv (.int .i64 y))), (22, (.pv (.int .i64 s))), (23, (.pv (.int .i64 t))), (44, t44), (45, (.pv (.int .i64 t45))), (46, (.pv (.int .i64 t46))), (209, (.pv (.bool t209)))] σ (q80 Z w0 n R)
def n96 : Prop :=
  Z (cAt code 96) 96 [(0, a), (1, b), (8, (.pv (.int .i64 n_))), (9, (.pv (.int .i64 m))), (10, (.pv (.int .i64 size))), (11, ahead), (12, back), (13, (.pv (.int .i64 odd))), (14, (.pv (.int .i64 h_))), (16, (.pv (.int .i64 o))), (17, c), (18, d), (19, (.pv (.int .i64 k))), (44, t44), (45, (.pv (.int .i64 t45))), (46, (.pv (.int .i64 t46)))] σ (q42 Z w0 n R)
def b96 : Prop :=
  pcodeX (cx w0) 229 lv n cuts Z (cAt code 96) 96 [(0, a), (1, b), (8, (.pv (.int .i64 n_))), (9, (.pv (.int .i64 m))), (10, (.pv (.int .i64 size))), (11, ahead), (12, back), (13, (.pv (.int .i64 odd))), (14, (.pv (.int .i64 h_))), (16, (.pv (.int .i64 o))), (17, c), (18, d), (19, (.pv (.int .i64 k))), (44, t44), (45, (.pv (.int .i64 t45))), (46, (.pv (.int .i64 t46)))] σ (q42 Z w0 n R)
def n97 : Prop :=
  Z (cAt code 97) 97 [(0, a), (1, b), (8, (.pv (.int .i64 n_))), (9, (.pv (.int .i64 m))), (10, (.pv (.int .i64 size))), (11, ahead), (12, back), (13, (.pv (.int .i64 odd))), (14, (.pv (.int .i64 h_))), (44, t44), (45, (.pv (.int .i64 t45))), (46, (.pv (.int .i64 t46)))] σ (q20 Z w0 n R)
def b97 : Prop :=
  pcodeX (cx w0) 229 lv n cuts Z (cAt code 97) 97 [(0, a), (1, b), (8, (.pv (.int .i64 n_))), (9, (.pv (.int .i64 m))), (10, (.pv (.int .i64 size))), (11, ahead), (12, back), (13, (.pv (.int .i64 odd))), (14, (.pv (.int .i64 h_))), (44, t44), (45, (.pv (.int .i64 t45))), (46, (.pv (.int .i64 t46)))] σ (q20 Z w0 n R)
def n98 : Prop :=
  Z (cAt code 98) 98 [(0, a), (1, b), (8, (.pv (.int .i64 n_))), (9, (.pv (.int .i64 m))), (10, (.pv (.int .i64 size))), (11, ahead), (12, back), (13, (.pv (.int .i64 odd))), (14, (.pv (.int .i64 h_)))] σ (q14 Z w0 n R)
def b98 : Prop :=
  pcodeX (cx w0) 229 lv n cuts Z (cAt code 98) 98 [(0, a), (1, b), (8, (.pv (.int .i64 n_))), (9, (.pv (.int .i64 m))), (10, (.pv (.int .i64 size))), (11, ahead), (12, back), (13, (.pv (.int .i64 odd))), (14, (.pv (.int .i64 h_)))] σ (q14 Z w0 n R)
def b0 : Prop :=
  pcodeX (cx w0) 229 lv n cuts Z code 0 (argsE 0 [a, b]) σ (finQ (cx w0) Tryd.f56 n R)
end
variable {Z : XT} {w0 : Base} {n : Nat} {R : RT} {σ τ : Store} {a b ahead back t44 c d a' b' ahead' back' t44' c' d' : AV} {n_ m size odd h_ t45 t46 o k x y s t n_' m' size' odd' h_' t45' t46' o' k' x' y' s' t' : Int} {t100 t164 t209 : Bool}
theorem n13_in (h : b14 (X w0 n) w0 n R σ a b n_ m size ahead back odd h_) : n13 (X w0 n) w0 n R σ a b n_ m size ahead back odd h_ := xr_round (cxOK w0) (S := cuts) (by kernel_rfl : cAt code 13 = .loop (cAt code 14)) h
theorem b14_eq : b14 Z w0 n R σ a b n_ m size ahead back odd h_ = (
  opt2 (aBuildSlice σ ti3 false 2 [(0, (.pv (.int .i64 1))), (1, (.pv (.int .i64 0)))]) fun t44 σ' => opt (aLen ti43.td t44) fun t45 => isI .i64 t45 fun t45_1 => n19 Z w0 n R σ' a b n_ m size ahead back odd h_ t44 t45_1 0) := by kernel_rfl
theorem n19_in (h : b20 (X w0 n) w0 n R σ a b n_ m size ahead back odd h_ t44 t45 t46) : n19 (X w0 n) w0 n R σ a b n_ m size ahead back odd h_ t44 t45 t46 := xr_round (cxOK w0) (S := cuts) (by kernel_rfl : cAt code 19 = .loop (cAt code 20)) h
theorem b20_eq : b20 Z w0 n R σ a b n_ m size ahead back odd h_ t44 t45 t46 = (
  condB (decide ((t46 : Int) < t45)) (opt (aIndexAddr σ tabS ti43.td t44 t46) fun t48 => opt (aLoad σ ti3 t48) fun t49 => isI .i64 t49 fun t49_1 => condB ((t49_1 : Int) == 0) (n38 Z w0 n R σ a b n_ m size ahead back odd h_ t49_1 back ahead t44 t45 t46) (n38 Z w0 n R σ a b n_ m size ahead back odd h_ t49_1 ahead back t44 t45 t46)) (n98 Z w0 n R σ a b n_ m size ahead back odd h_)) := by kernel_rfl
theorem b38_eq : b38 Z w0 n R σ a b n_ m size ahead back odd h_ o c d t44 t45 t46 = (
  n41 Z w0 n R σ a b n_ m size ahead back odd h_ o c d (IntKind.wrap .i64 (0 - (IntKind.wrap .i64 (h_ - (IntKind.wrap .i64 (2 * (if ((IntKind.wrap .i64 (h_ - m)) : Int) > 0 then (IntKind.wrap .i64 (h_ - m)) else 0))))))) t44 t45 t46) := by kernel_rfl
theorem n38_in (h : b38 (X w0 n) w0 n R σ a b n_ m size ahead back odd h_ o c d t44 t45 t46) : n38 (X w0 n) w0 n R σ a b n_ m size ahead back odd h_ o c d t44 t45 t46 := xr_in (S := cuts) (by kernel_rfl) h
theorem n41_in (h : b42 (X w0 n) w0 n R σ a b n_ m size ahead back odd h_ o c d k t44 t45 t46) : n41 (X w0 n) w0 n R σ a b n_ m size ahead back odd h_ o c d k t44 t45 t46 := xr_round (cxOK w0) (S := cuts) (by kernel_rfl : cAt code 41 = .loop (cAt code 42)) h
theorem b42_eq : b42 Z w0 n R σ a b n_ m size ahead back odd h_ o c d k t44 t45 t46 = (
  condB (decide ((k : Int) ≤ (IntKind.wrap .i64 (h_ - (IntKind.wrap .i64 (2 * (if ((IntKind.wrap .i64 (h_ - n_)) : Int) > 0 then (IntKind.wrap .i64 (h_ - n_)) else 0))))))) (condB ((k : Int) == (IntKind.wrap .i64 (0 - h_))) (n55 Z w0 n R σ a b n_ m size ahead back odd h_ o c d k t44 t45 t46 true) (condB ((k : Int) != h_) (SCalls (cx w0) myers_wrap.id [(.pv (.int .i64 (IntKind.wrap .i64 (k - 1)))), (.pv (.int .i64 size))] σ fun r σ' => isI .i64 r fun t88 => opt (aIndexAddr σ' tabS ti43.td c t88) fun t89 => opt (aLoad σ' ti3 t89) fun t90 => isI .i64 t90 fun t90_1 => SCalls (cx w0) myers_wrap.id [(.pv (.int .i64 (IntKind.wrap .i64 (k + 1)))), (.pv (.int .i64 size))] σ' fun r_1 σ'_1 => isI .i64 r_1 fun t95 => ((opt (aIndexAddr σ'_1 tabS ti43.td c t88) fun t89_1 => ((t89_1 : AV) = t89)) ∧ (((opt (aLoad σ'_1 ti3 t89) fun t90_2 => ((t90_2 : AV) = (.pv (.int .i64 t90_1)))) ∧ (opt (aIndexAddr σ'_1 tabS ti43.td c t95) fun t96 => opt (aLoad σ'_1 ti3 t96) fun t97 => isI .i64 t97 fun t97_1 => n55 Z w0 n R σ'_1 a b n_ m size ahead back odd h_ o c d k t44 t45 t46 (decide ((t90_1 : Int) < t97_1))))))) (n55 Z w0 n R σ a b n_ m size ahead back odd h_ o c d k t44 t45 t46 false))) (n97 Z w0 n R σ a b n_ m size ahead back odd h_ t44 t45 t46)) := by kernel_rfl
theorem b55_eq : b55 Z w0 n R σ a b n_ m size ahead back odd h_ o c d k t44 t45 t46 t100 = (
  condB t100 (SCalls (cx w0) myers_wrap.id [(.pv (.int .i64 (IntKind.wrap .i64 (k + 1)))), (.pv (.int .i64 size))] σ fun r σ' => isI .i64 r fun t105 => opt (aIndexAddr σ' tabS ti43.td c t105) fun t106 => opt (aLoad σ' ti3 t106) fun t107 => isI .i64 t107 fun t107_1 => n58 Z w0 n R σ' a b n_ m size ahead back odd h_ o c d k t107_1 t44 t45 t46) (SCalls (cx w0) myers_wrap.id [(.pv (.int .i64 (IntKind.wrap .i64 (k - 1)))), (.pv (.int .i64 size))] σ fun r σ' => isI .i64 r fun t112 => opt (aIndexAddr σ' tabS ti43.td c t112) fun t113 => opt (aLoad σ' ti3 t113) fun t114 => isI .i64 t114 fun t114_1 => n58 Z w0 n R σ' a b n_ m size ahead back odd h_ o c d k (IntKind.wrap .i64 (t114_1 + 1)) t44 t45 t46)) := by kernel_rfl
theorem n55_in (h : b55 (X w0 n) w0 n R σ a b n_ m size ahead back odd h_ o c d k t44 t45 t46 t100) : n55 (X w0 n) w0 n R σ a b n_ m size ahead back odd h_ o c d k t44 t45 t46 t100 := xr_in (S := cuts) (by kernel_rfl) h
theorem b58_eq : b58 Z w0 n R σ a b n_ m size ahead back odd h_ o c d k x t44 t45 t46 = (
  n64 Z w0 n R σ a b n_ m size ahead back odd h_ o c d k x (IntKind.wrap .i64 (x - k)) x (IntKind.wrap .i64 (x - k)) t44 t45 t46) := by kernel_rfl
theorem n58_in (h : b58 (X w0 n) w0 n R σ a b n_ m size ahead back odd h_ o c d k x t44 t45 t46) : n58 (X w0 n) w0 n R σ a b n_ m size ahead back odd h_ o c d k x t44 t45 t46 := xr_in (S := cuts) (by kernel_rfl) h
theorem n64_in (h : b65 (X w0 n) w0 n R σ a b n_ m size ahead back odd h_ o c d k x y s t t44 t45 t46) : n64 (X w0 n) w0 n R σ a b n_ m size ahead back odd h_ o c d k x y s t t44 t45 t46 := xr_round (cxOK w0) (S := cuts) (by kernel_rfl : cAt code 64 = .loop (cAt code 65)) h
theorem b65_eq : b65 Z w0 n R σ a b n_ m size ahead back odd h_ o c d k x y s t t44 t45 t46 = (
  condB (decide ((x : Int) < n_)) (condB (decide ((y : Int) < m)) (condB ((o : Int) == 1) (opt (aIndexAddr σ tabS ti43.td a x) fun t135 => opt (aLoad σ ti3 t135) fun t136 => isI .i64 t136 fun t136_1 => opt (aIndexAddr σ tabS ti43.td b y) fun t139 => opt (aLoad σ ti3 t139) fun t140 => isI .i64 t140 fun t140_1 => condB ((t136_1 : Int) == t140_1) (n68 Z w0 n R σ a b n_ m size ahead back odd h_ o c d k x y s t t44 t45 t46 true) (condB ((o : Int) == 0) (opt (aIndexAddr σ tabS ti43.td a (IntKind.wrap .i64 ((IntKind.wrap .i64 (n_ - 1)) - x))) fun t152 => opt (aLoad σ ti3 t152) fun t153 => isI .i64 t153 fun t153_1 => opt (aIndexAddr σ tabS ti43.td b (IntKind.wrap .i64 ((IntKind.wrap .i64 (m - 1)) - y))) fun t159 => opt (aLoad σ ti3 t159) fun t160 => isI .i64 t160 fun t160_1 => n68 Z w0 n R σ a b n_ m size ahead back odd h_ o c d k x y s t t44 t45 t46 ((t153_1 : Int) == t160_1)) (n68 Z w0 n R σ a b n_ m size ahead back odd h_ o c d k x y s t t44 t45 t46 false))) (condB ((o : Int) == 0) (opt (aIndexAddr σ tabS ti43.td a (IntKind.wrap .i64 ((IntKind.wrap .i64 (n_ - 1)) - x))) fun t152 => opt (aLoad σ ti3 t152) fun t153 => isI .i64 t153 fun t153_1 => opt (aIndexAddr σ tabS ti43.td b (IntKind.wrap .i64 ((IntKind.wrap .i64 (m - 1)) - y))) fun t159 => opt (aLoad σ ti3 t159) fun t160 => isI .i64 t160 fun t160_1 => n68 Z w0 n R σ a b n_ m size ahead back odd h_ o c d k x y s t t44 t45 t46 ((t153_1 : Int) == t160_1)) (n68 Z w0 n R σ a b n_ m size ahead back odd h_ o c d k x y s t t44 t45 t46 false))) (n68 Z w0 n R σ a b n_ m size ahead back odd h_ o c d k x y s t t44 t45 t46 false)) (n68 Z w0 n R σ a b n_ m size ahead back odd h_ o c d k x y s t t44 t45 t46 false)) := by kernel_rfl
theorem b68_eq : b68 Z w0 n R σ a b n_ m size ahead back odd h_ o c d k x y s t t44 t45 t46 t164 = (
  condB t164 (n64 Z w0 n R σ a b n_ m size ahead back odd h_ o c d k (IntKind.wrap .i64 (x + 1)) (IntKind.wrap .i64 (y + 1)) s t t44 t45 t46) (n75 Z w0 n R σ a b n_ m size ahead back odd h_ o c d k x y s t t44 t45 t46)) := by kernel_rfl
theorem n68_in (h : b68 (X w0 n) w0 n R σ a b n_ m size ahead back odd h_ o c d k x y s t t44 t45 t46 t164) : n68 (X w0 n) w0 n R σ a b n_ m size ahead back odd h_ o c d k x y s t t44 t45 t46 t164 := xr_in (S := cuts) (by kernel_rfl) h
theorem b75_eq : b75 Z w0 n R σ a b n_ m size ahead back odd h_ o c d k x y s t t44 t45 t46 = (
  SCalls (cx w0) myers_wrap.id [(.pv (.int .i64 k)), (.pv (.int .i64 size))] σ fun r σ' => isI .i64 r fun t172 => opt (aIndexAddr σ' tabS ti43.td c t172) fun t174 => opt (aStore σ' ti3 t174 (.pv (.int .i64 x))) fun σ'_1 => condB ((odd : Int) != o) (n82 Z w0 n R σ'_1 a b n_ m size ahead back odd h_ o c d k x y s t t44 t45 t46 true) (condB (decide (((IntKind.wrap .i64 ((IntKind.wrap .i64 (n_ - m)) - k)) : Int) < (IntKind.wrap .i64 (0 - (IntKind.wrap .i64 (h_ - o)))))) (n82 Z w0 n R σ'_1 a b n_ m size ahead back odd h_ o c d k x y s t t44 t45 t46 true) (condB (decide (((IntKind.wrap .i64 ((IntKind.wrap .i64 (n_ - m)) - k)) : Int) > (IntKind.wrap .i64 (h_ - o)))) (n82 Z w0 n R σ'_1 a b n_ m size ahead back odd h_ o c d k x y s t t44 t45 t46 true) (SCalls (cx w0) myers_wrap.id [(.pv (.int .i64 (IntKind.wrap .i64 ((IntKind.wrap .i64 (n_ - m)) - k)))), (.pv (.int .i64 size))] σ'_1 fun r_1 σ'_2 => isI .i64 r_1 fun t203 => opt (aIndexAddr σ'_2 tabS ti43.td d t203) fun t204 => opt (aLoad σ'_2 ti3 t204) fun t205 => isI .i64 t205 fun t205_1 => n82 Z w0 n R σ'_2 a b n_ m size ahead back odd h_ o c d k x y s t t44 t45 t46 (decide (((IntKind.wrap .i64 (x + t205_1)) : Int) < n_)))))) := by kernel_rfl
theorem n75_in (h : b75 (X w0 n) w0 n R σ a b n_ m size ahead back odd h_ o c d k x y s t t44 t45 t46) : n75 (X w0 n) w0 n R σ a b n_ m size ahead back odd h_ o c d k x y s t t44 t45 t46 := xr_in (S := cuts) (by kernel_rfl) h
theorem b82_eq : b82 Z w0 n R σ a b n_ m size ahead back odd h_ o c d k x y s t t44 t45 t46 t209 = (
  condB t209 (n96 Z w0 n R σ a b n_ m size ahead back odd h_ o c d k t44 t45 t46) (condB ((o : Int) == 1) (FinK (cx w0) n (.tup [(.pv (.int .i64 s)), (.pv (.int .i64 t)), (.pv (.int .i64 x)), (.pv (.int .i64 y))]) σ R) (FinK (cx w0) n (.tup [(.pv (.int .i64 (IntKind.wrap .i64 (n_ - x)))), (.pv (.int .i64 (IntKind.wrap .i64 (m - y)))), (.pv (.int .i64 (IntKind.wrap .i64 (n_ - s)))), (.pv (.int .i64 (IntKind.wrap .i64 (m - t))))]) σ R))) := by kernel_rfl
theorem n82_in (h : b82 (X w0 n) w0 n R σ a b n_ m size ahead back odd h_ o c d k x y s t t44 t45 t46 t209) : n82 (X w0 n) w0 n R σ a b n_ m size ahead back odd h_ o c d k x y s t t44 t45 t46 t209 := xr_in (S := cuts) (by kernel_rfl) h
theorem b96_eq : b96 Z w0 n R σ a b n_ m size ahead back odd h_ o c d k t44 t45 t46 = (
  n41 Z w0 n R σ a b n_ m size ahead back odd h_ o c d (IntKind.wrap .i64 (k + 2)) t44 t45 t46) := by kernel_rfl
theorem n96_in (h : b96 (X w0 n) w0 n R σ a b n_ m size ahead back odd h_ o c d k t44 t45 t46) : n96 (X w0 n) w0 n R σ a b n_ m size ahead back odd h_ o c d k t44 t45 t46 := xr_in (S := cuts) (by kernel_rfl) h
theorem b97_eq : b97 Z w0 n R σ a b n_ m size ahead back odd h_ t44 t45 t46 = (
  n19 Z w0 n R σ a b n_ m size ahead back odd h_ t44 t45 (IntKind.wrap .i64 (t46 + 1))) := by kernel_rfl
theorem n97_in (h : b97 (X w0 n) w0 n R σ a b n_ m size ahead back odd h_ t44 t45 t46) : n97 (X w0 n) w0 n R σ a b n_ m size ahead back odd h_ t44 t45 t46 := xr_in (S := cuts) (by kernel_rfl) h
theorem b98_eq : b98 Z w0 n R σ a b n_ m size ahead back odd h_ = (
  n13 Z w0 n R σ a b n_ m size ahead back odd (IntKind.wrap .i64 (h_ + 1))) := by kernel_rfl
theorem n98_in (h : b98 (X w0 n) w0 n R σ a b n_ m size ahead back odd h_) : n98 (X w0 n) w0 n R σ a b n_ m size ahead back odd h_ := xr_in (S := cuts) (by kernel_rfl) h
theorem b0_eq : b0 Z w0 n R σ a b = (
  opt (aLen ti43.td a) fun t26 => isI .i64 t26 fun t26_1 => opt (aLen ti43.td b) fun t28 => isI .i64 t28 fun t28_1 => opt (mkObj 3 ti3 (IntKind.wrap .i64 ((IntKind.wrap .i64 (2 * (if (t28_1 : Int) < t26_1 then t28_1 else t26_1))) + 2)) (IntKind.wrap .i64 ((IntKind.wrap .i64 (2 * (if (t28_1 : Int) < t26_1 then t28_1 else t26_1))) + 2))) fun ob => opt (mkObj 3 ti3 (IntKind.wrap .i64 ((IntKind.wrap .i64 (2 * (if (t28_1 : Int) < t26_1 then t28_1 else t26_1))) + 2)) (IntKind.wrap .i64 ((IntKind.wrap .i64 (2 * (if (t28_1 : Int) < t26_1 then t28_1 else t26_1))) + 2))) fun ob_1 => ((2 : Int) ≠ 0 ∧ (n13 Z w0 n R (σ ++ [ob, ob_1]) a b t26_1 t28_1 (IntKind.wrap .i64 ((IntKind.wrap .i64 (2 * (if (t28_1 : Int) < t26_1 then t28_1 else t26_1))) + 2)) (mkRes ti3 (List.length σ + 0) (IntKind.wrap .i64 ((IntKind.wrap .i64 (2 * (if (t28_1 : Int) < t26_1 then t28_1 else t26_1))) + 2))) (mkRes ti3 (List.length σ + 1) (IntKind.wrap .i64 ((IntKind.wrap .i64 (2 * (if (t28_1 : Int) < t26_1 then t28_1 else t26_1))) + 2))) (Int.tmod (IntKind.wrap .i64 (t26_1 + t28_1)) 2) 0))) := by kernel_rfl
theorem calls (h : b0 (X w0 (List.length σ)) w0 (List.length σ) R σ a b) : SCalls (cx w0) myers_snake.id [a, b] σ R :=
  xr_enter (cxOK w0) (x := fe) (S := cuts) (myers_snake.ok w0) (by kernel_rfl) h
attribute [irreducible] n13 b14 n19 b20 n38 b38 n41 b42 n55 b55 n58 b58 n64 b65 n68 b68 n75 b75 n82 b82 n96 b96 n97 b97 n98 b98 b0
end myers_snake
namespace myers_box_trim
def lvs : List (List Nat) := [[0], [0], [1, 2], [1, 2], [1, 2], [1, 2], [1, 2], [1, 2], [1, 2, 23], [1, 2], [1, 2], [1, 2], [1, 2], [1, 2], [1, 2], [1, 2], [1, 2], [1, 2], [1, 2], [1, 2, 65], [1, 2], [1, 2], [1, 2], [1, 2], [1, 2], [1, 2], [2]]
def lv : Nat → List Nat := lvOf lvs
noncomputable def code : Code := bodyOf Tryd.f55
noncomputable def fe : FE := ⟨Tryd.f55, code, lv⟩
def cuts : List Nat := [5, 8, 13, 16, 19, 24]
abbrev X (w0 : Base) (n : Nat) : XT := xr (cx w0) 86 lv n
theorem ok (w0 : Base) : FOK (cx w0) myers_box_trim.id fe := ⟨Tryd.func55, by kernel_rfl, by kernel_rfl⟩
section
variable (Z : XT) (w0 : Base) (n : Nat) (R : RT) (σ : Store) (p t2 : AV) (t23 t65 : Bool)
def q3 : QT := thenQ (fun env σ => Z (cAt code 13) 13 (prune (lv 13) env) σ (finQ (cx w0) Tryd.f55 n R)) (finQ (cx w0) Tryd.f55 n R)
def q4 : QT := blockQ 0 (q3 Z w0 n R)
def q5 : QT := thenQ (fun env σ => Z (cAt code 4) 4 (prune (lv 4) env) σ (q4 Z w0 n R)) (q4 Z w0 n R)
def q6 : QT := thenQ (fun env σ => pcodeX (cx w0) 86 lv n cuts Z (cAt code 11) 11 (prune (lv 11) env) σ (q5 Z w0 n R)) (q5 Z w0 n R)
def q14 : QT := thenQ (fun env σ => Z (cAt code 24) 24 (prune (lv 24) env) σ (finQ (cx w0) Tryd.f55 n R)) (finQ (cx w0) Tryd.f55 n R)
def q15 : QT := blockQ 2 (q14 Z w0 n R)
def q16 : QT := thenQ (fun env σ => Z (cAt code 15) 15 (prune (lv 15) env) σ (q15 Z w0 n R)) (q15 Z w0 n R)
def q17 : QT := thenQ (fun env σ => pcodeX (cx w0) 86 lv n cuts Z (cAt code 22) 22 (prune (lv 22) env) σ (q16 Z w0 n R)) (q16 Z w0 n R)
def n4 : Prop :=
  Z (cAt code 4) 4 [(1, p), (2, t2)] σ (q4 Z w0 n R)
def b5 : Prop :=
  pcodeX (cx w0) 86 lv n cuts Z (cAt code 5) 5 [(1, p), (2, t2)] σ (q5 Z w0 n R)
def n8 : Prop :=
  Z (cAt code 8) 8 [(1, p), (2, t2), (23, (.pv (.bool t23)))] σ (q6 Z w0 n R)
def b8 : Prop :=
  pcodeX (cx w0) 86 lv n cuts Z (cAt code 8) 8 [(1, p), (2, t2), (23, (.pv (.bool t23)))] σ (q6 Z w0 n R)
def n13 : Prop :=
  Z (cAt code 13) 13 [(1, p), (2, t2)] σ (finQ (cx w0) Tryd.f55 n R)
def b13 : Prop :=
  pcodeX (cx w0) 86 lv n cuts Z (cAt code 13) 13 [(1, p), (2, t2)] σ (finQ (cx w0) Tryd.f55 n R)
def n15 : Prop :=
  Z (cAt code 15) 15 [(1, p), (2, t2)] σ (q15 Z w0 n R)
def b16 : Prop :=
  pcodeX (cx w0) 86 lv n cuts Z (cAt code 16) 16 [(1, p), (2, t2)] σ (q16 Z w0 n R)
def n19 : Prop :=
  Z (cAt code 19) 19 [(1, p), (2, t2), (65, (.pv (.bool t65)))] σ (q17 Z w0 n R)
def b19 : Prop :=
  pcodeX (cx w0) 86 lv n cuts Z (cAt code 19) 19 [(1, p), (2, t2), (65, (.pv (.bool t65)))] σ (q17 Z w0 n R)
def n24 : Prop :=
  Z (cAt code 24) 24 [(1, p), (2, t2)] σ (finQ (cx w0) Tryd.f55 n R)
def b24 : Prop :=
  pcodeX (cx w0) 86 lv n cuts Z (cAt code 24) 24 [(1, p), (2, t2)] σ (finQ (cx w0) Tryd.f55 n R)
def b0 : Prop :=
  pcodeX (cx w0) 86 lv n cuts Z code 0 (argsE 0 [p]) σ (finQ (cx w0) Tryd.f55 n R)
end
variable {Z : XT} {w0 : Base} {n : Nat} {R : RT} {σ τ : Store} {p t2 p' t2' : AV} {t23 t65 : Bool}
theorem n4_in (h : b5 (X w0 n) w0 n R σ p t2) : n4 (X w0 n) w0 n R σ p t2 := xr_round (cxOK w0) (S := cuts) (by kernel_rfl : cAt code 4 = .loop (cAt code 5)) h
theorem b5_eq : b5 Z w0 n R σ p t2 = (
  opt (aFieldAddr tabS ti115.td p 0) fun t3 => opt (aLoad σ ti43 t3) fun t4 => opt (aLen ti43.td t4) fun t5 => isI .i64 t5 fun t5_1 => condB (decide ((t5_1 : Int) > 0)) (opt (aFieldAddr tabS ti115.td p 1) fun t8 => opt (aLoad σ ti43 t8) fun t9 => opt (aLen ti43.td t9) fun t10 => isI .i64 t10 fun t10_1 => condB (decide ((t10_1 : Int) > 0)) (opt (aFieldAddr tabS ti115.td p 0) fun t14 => opt (aLoad σ ti43 t14) fun t15 => opt (aIndexAddr σ tabS ti43.td t15 0) fun t16 => opt (aLoad σ ti3 t16) fun t17 => isI .i64 t17 fun t17_1 => opt (aFieldAddr tabS ti115.td p 1) fun t18 => opt (aLoad σ ti43 t18) fun t19 => opt (aIndexAddr σ tabS ti43.td t19 0) fun t20 => opt (aLoad σ ti3 t20) fun t21 => isI .i64 t21 fun t21_1 => n8 Z w0 n R σ p t2 ((t17_1 : Int) == t21_1)) (n8 Z w0 n R σ p t2 false)) (n8 Z w0 n R σ p t2 false)) := by kernel_rfl
theorem b8_eq : b8 Z w0 n R σ p t2 t23 = (
  condB t23 (opt (aFieldAddr tabS ti115.td p 0) fun t24 => opt (aLoad σ ti43 t24) fun t25 => opt (aSlice σ tabS ti43.td t25 (some (.pv (.int .i64 1))) none) fun t26 => opt (aFieldAddr tabS ti115.td p 1) fun t27 => opt (aLoad σ ti43 t27) fun t28 => opt (aSlice σ tabS ti43.td t28 (some (.pv (.int .i64 1))) none) fun t29 => opt (aFieldAddr tabS ti115.td p 2) fun t30 => opt (aLoad σ ti3 t30) fun t31 => isI .i64 t31 fun t31_1 => opt (aFieldAddr tabS ti115.td p 3) fun t33 => opt (aLoad σ ti3 t33) fun t34 => isI .i64 t34 fun t34_1 => opt (aBuild tabS ti115 [(0, t26), (1, t29), (2, (.pv (.int .i64 (IntKind.wrap .i64 (t31_1 + 1))))), (3, (.pv (.int .i64 (IntKind.wrap .i64 (t34_1 + 1)))))]) fun t36 => opt (aStore σ ti115 p t36) fun σ' => n4 Z w0 n R σ' p t2) (n13 Z w0 n R σ p t2)) := by kernel_rfl
theorem n8_in (h : b8 (X w0 n) w0 n R σ p t2 t23) : n8 (X w0 n) w0 n R σ p t2 t23 := xr_in (S := cuts) (by kernel_rfl) h
theorem b13_eq : b13 Z w0 n R σ p t2 = (
  n15 Z w0 n R σ p t2) := by kernel_rfl
theorem n13_in (h : b13 (X w0 n) w0 n R σ p t2) : n13 (X w0 n) w0 n R σ p t2 := xr_in (S := cuts) (by kernel_rfl) h
theorem n15_in (h : b16 (X w0 n) w0 n R σ p t2) : n15 (X w0 n) w0 n R σ p t2 := xr_round (cxOK w0) (S := cuts) (by kernel_rfl : cAt code 15 = .loop (cAt code 16)) h
theorem b16_eq : b16 Z w0 n R σ p t2 = (
  opt (aFieldAddr tabS ti115.td p 0) fun t37 => opt (aLoad σ ti43 t37) fun t38 => opt (aLen ti43.td t38) fun t39 => isI .i64 t39 fun t39_1 => condB (decide ((t39_1 : Int) > 0)) (opt (aFieldAddr tabS ti115.td p 1) fun t42 => opt (aLoad σ ti43 t42) fun t43 => opt (aLen ti43.td t43) fun t44 => isI .i64 t44 fun t44_1 => condB (decide ((t44_1 : Int) > 0)) (opt (aFieldAddr tabS ti115.td p 0) fun t48 => opt (aLoad σ ti43 t48) fun t49 => opt (aFieldAddr tabS ti115.td p 0) fun t50 => opt (aLoad σ ti43 t50) fun t51 => opt (aLen ti43.td t51) fun t52 => isI .i64 t52 fun t52_1 => opt (aIndexAddr σ tabS ti43.td t49 (IntKind.wrap .i64 (t52_1 - 1))) fun t54 => opt (aLoad σ ti3 t54) fun t55 => isI .i64 t55 fun t55_1 => opt (aFieldAddr tabS ti115.td p 1) fun t56 => opt (aLoad σ ti43 t56) fun t57 => opt (aFieldAddr tabS ti115.td p 1) fun t58 => opt (aLoad σ ti43 t58) fun t59 => opt (aLen ti43.td t59) fun t60 => isI .i64 t60 fun t60_1 => opt (aIndexAddr σ tabS ti43.td t57 (IntKind.wrap .i64 (t60_1 - 1))) fun t62 => opt (aLoad σ ti3 t62) fun t63 => isI .i64 t63 fun t63_1 => n19 Z w0 n R σ p t2 ((t55_1 : Int) == t63_1)) (n19 Z w0 n R σ p t2 false)) (n19 Z w0 n R σ p t2 false)) := by kernel_rfl
theorem b19_eq : b19 Z w0 n R σ p t2 t65 = (
  condB t65 (opt (aFieldAddr tabS ti115.td p 0) fun t66 => opt (aLoad σ ti43 t66) fun t67 => opt (aFieldAddr tabS ti115.td p 0) fun t68 => opt (aLoad σ ti43 t68) fun t69 => opt (aLen ti43.td t69) fun t70 => isI .i64 t70 fun t70_1 => opt (aSlice σ tabS ti43.td t67 none (some (.pv (.int .i64 (IntKind.wrap .i64 (t70_1 - 1)))))) fun t72 => opt (aFieldAddr tabS ti115.td p 1) fun t73 => opt (aLoad σ ti43 t73) fun t74 => opt (aFieldAddr tabS ti115.td p 1) fun t75 => opt (aLoad σ ti43 t75) fun t76 => opt (aLen ti43.td t76) fun t77 => isI .i64 t77 fun t77_1 => opt (aSlice σ tabS ti43.td t74 none (some (.pv (.int .i64 (IntKind.wrap .i64 (t77_1 - 1)))))) fun t79 => opt (aFieldAddr tabS ti115.td p 2) fun t80 => opt (aLoad σ ti3 t80) fun t81 => isI .i64 t81 fun t81_1 => opt (aFieldAddr tabS ti115.td p 3) fun t82 => opt (aLoad σ ti3 t82) fun t83 => isI .i64 t83 fun t83_1 => opt (aBuild tabS ti115 [(0, t72), (1, t79), (2, (.pv (.int .i64 t81_1))), (3, (.pv (.int .i64 t83_1)))]) fun t84 => opt (aStore σ ti115 p t84) fun σ' => n15 Z w0 n R σ' p t2) (n24 Z w0 n R σ p t2)) := by kernel_rfl
theorem n19_in (h : b19 (X w0 n) w0 n R σ p t2 t65) : n19 (X w0 n) w0 n R σ p t2 t65 := xr_in (S := cuts) (by kernel_rfl) h
theorem b24_eq : b24 Z w0 n R σ p t2 = (
  opt (aLoad σ ti115 p) fun t85 => opt (aStore σ ti115 t2 t85) fun σ' => opt (aLoad σ' ti115 t2) fun v => FinK (cx w0) n v σ' R) := by kernel_rfl
theorem n24_in (h : b24 (X w0 n) w0 n R σ p t2) : n24 (X w0 n) w0 n R σ p t2 := xr_in (S := cuts) (by kernel_rfl) h
theorem b0_eq : b0 Z w0 n R σ p = (
  ((AV.cells p).all AV.one = true ∧ (n4 Z w0 n R ((σ ++ [.cells 115 (AV.cells p)]) ++ [.cells 115 (AV.ofValue ti115.zero).cells]) (.ptr (List.length σ) 0) (.ptr (List.length (σ ++ [.cells 115 (AV.cells p)])) 0)))) := by kernel_rfl
theorem calls (h : b0 (X w0 (List.length σ)) w0 (List.length σ) R σ p) : SCalls (cx w0) myers_box_trim.id [p] σ R :=
  xr_enter (cxOK w0) (x := fe) (S := cuts) (myers_box_trim.ok w0) (by kernel_rfl) h
attribute [irreducible] n4 b5 n8 b8 n13 b13 n15 b16 n19 b19 n24 b24 b0
end myers_box_trim
namespace myers_mark
def lvs : List (List Nat) := [[0, 1], [0, 1], [0, 1, 4], [0, 1, 4], [0, 1, 4, 5], [0, 1, 4, 5], [4, 5, 6], [4, 5, 6], [4, 5, 6], [4, 5, 6], [4, 5, 6], [4, 5, 6], [4, 5, 6, 27], [4, 5, 6], [4, 5], [4, 5, 6], [4, 5, 6], [4, 5, 6], [4, 5, 6, 7], [4, 5, 6, 7], [4, 5, 6, 7], [4, 5, 6, 7], [4, 5, 6, 7], [4, 5, 6, 7, 49], [4, 5, 6, 7], [4, 5, 6, 7], [4, 5, 6, 7], [4, 5, 6, 7, 52, 53], [4, 5, 6, 7, 52, 53], [4, 5, 6, 7, 52, 53], [4, 5, 6, 7, 52, 53], [4, 5, 6, 7, 52, 53, 54], [4, 5, 6, 7, 52, 53, 54], [4, 5, 6, 7, 52, 53], [4, 5, 6, 7], [4, 5, 6, 7, 52, 53], [4, 5, 6, 7, 52, 53], [4, 5, 6, 7, 52, 53], [4, 5, 6, 7, 52, 53], [4, 5, 6, 7, 8, 52, 53], [4, 5, 6, 7, 52, 53], [4, 5, 6, 7], [4, 5, 6, 7], [4, 5, 6, 7], [4, 5, 6, 7, 66, 67], [4, 5, 6, 7, 66, 67], [4, 5, 6, 7, 66, 67], [4, 5, 6, 7, 66, 67], [4, 5, 6, 7, 66, 67, 68], [4, 5, 6, 7, 66, 67, 68], [4, 5, 6, 7, 66, 67], [4, 5, 6], [4, 5, 6, 7, 66, 67], [4, 5, 6, 7, 66, 67], [4, 5, 6, 7, 66, 67], [4, 5, 6, 7, 66, 67], [4, 5, 6, 7, 9, 66, 67], [4, 5, 6, 7, 66, 67], [4, 5, 6], [4, 5, 6, 7], [4, 5, 6, 7], [4, 5, 6, 7], [4, 5, 6, 7, 10, 11, 12, 13], [4, 5], [4, 5], [4]]
def lv : Nat → List Nat := lvOf lvs
noncomputable def code : Code := bodyOf Tryd.f48
noncomputable def fe : FE := ⟨Tryd.f48, code, lv⟩
def cuts : List Nat := [9, 23, 29, 41, 46, 58, 60, 63]
abbrev X (w0 : Base) (n : Nat) : XT := xr (cx w0) 122 lv n
theorem ok (w0 : Base) : FOK (cx w0) myers_mark.id fe := ⟨Tryd.func48, by kernel_rfl, by kernel_rfl⟩
section
variable (Z : XT) (w0 : Base) (n : Nat) (R : RT) (σ : Store) (t4 m stack p : AV) (t49 : Bool) (t52 t53 t66 t67 : Int) (a b : AV)
def q7 : QT := thenQ (fun env σ => Z (cAt code 63) 63 (prune (lv 63) env) σ (finQ (cx w0) Tryd.f48 n R)) (finQ (cx w0) Tryd.f48 n R)
def q8 : QT := blockQ 0 (q7 Z w0 n R)
def q9 : QT := thenQ (fun env σ => Z (cAt code 8) 8 (prune (lv 8) env) σ (q8 Z w0 n R)) (q8 Z w0 n R)
def q16 : QT := blockQ 1 (q9 Z w0 n R)
def q21 : QT := thenQ (fun env σ => Z (cAt code 60) 60 (prune (lv 60) env) σ (q16 Z w0 n R)) (q16 Z w0 n R)
def q25 : QT := thenQ (fun env σ => Z (cAt code 41) 41 (prune (lv 41) env) σ (q21 Z w0 n R)) (q21 Z w0 n R)
def q28 : QT := blockQ 2 (q25 Z w0 n R)
def q29 : QT := thenQ (fun env σ => Z (cAt code 28) 28 (prune (lv 28) env) σ (q28 Z w0 n R)) (q28 Z w0 n R)
def q42 : QT := thenQ (fun env σ => Z (cAt code 58) 58 (prune (lv 58) env) σ (q21 Z w0 n R)) (q21 Z w0 n R)
def q45 : QT := blockQ 4 (q42 Z w0 n R)
def q46 : QT := thenQ (fun env σ => Z (cAt code 45) 45 (prune (lv 45) env) σ (q45 Z w0 n R)) (q45 Z w0 n R)
def n8 : Prop :=
  Z (cAt code 8) 8 [(4, t4), (5, m), (6, stack)] σ (q8 Z w0 n R)
def b9 : Prop :=
  pcodeX (cx w0) 122 lv n cuts Z (cAt code 9) 9 [(4, t4), (5, m), (6, stack)] σ (q9 Z w0 n R)
def n23 : Prop :=
  Z (cAt code 23) 23 [(4, t4), (5, m), (6, stack), (7, p), (49, (.pv (.bool t49)))] σ (q21 Z w0 n R)
def b23 : Prop :=
  pcodeX (cx w0) 122 lv n cuts Z (cAt code 23) 23 [(4, t4), (5, m), (6, stack), (7, p), (49, (.pv (.bool t49)))] σ (q21 Z w0 n R)
def n28 : Prop :=
  Z (cAt code 28) 28 [(4, t4), (5, m), (6, stack), (7, p), (52, (.pv (.int .i64 t52))), (53, (.pv (.int .i64 t53)))] σ (q28 Z w0 n R)
def b29 : Prop :=
  pcodeX (cx w0) 122 lv n cuts Z (cAt code 29) 29 [(4, t4), (5, m), (6, stack), (7, p), (52, (.pv (.int .i64 t52))), (53, (.pv (.int .i64 t53)))] σ (q29 Z w0 n R)
def n41 : Prop :=
  Z (cAt code 41) 41 [(4, t4), (5, m), (6, stack), (7, p)] σ (q21 Z w0 n R)
def b41 : Prop :=
  pcodeX (cx w0) 122 lv n cuts Z (cAt code 41) 41 [(4, t4), (5, m), (6, stack), (7, p)] σ (q21 Z w0 n R)
def n45 : Prop :=
  Z (cAt code 45) 45 [(4, t4), (5, m), (6, stack), (7, p), (66, (.pv (.int .i64 t66))), (67, (.pv (.int .i64 t67)))] σ (q45 Z w0 n R)
def b46 : Prop :=
  pcodeX (cx w0) 122 lv n cuts Z (cAt code 46) 46 [(4, t4), (5, m), (6, stack), (7, p), (66, (.pv (.int .i64 t66))), (67, (.pv (.int .i64 t67)))] σ (q46 Z w0 n R)
def n58 : Prop :=
  Z (cAt code 58) 58 [(4, t4), (5, m), (6, stack)] σ (q21 Z w0 n R)
def b58 : Prop :=
  pcodeX (cx w0) 122 lv n cuts Z (cAt code 58) 58 [(4, t4), (5, m), (6, stack)] σ (q21 Z w0 n R)
def n60 : Prop :=
  Z (cAt code 60) 60 [(4, t4), (5, m), (6, stack), (7, p)] σ (q16 Z w0 n R)
def b60 : Prop :=
  pcodeX (cx w0) 122 lv n cuts Z (cAt code 60) 60 [(4, t4), (5, m), (6, stack), (7, p)] σ (q16 Z w0 n R)
def n63 : Prop :=
  Z (cAt code 63) 63 [(4, t4), (5, m)] σ (finQ (cx w0) Tryd.f48 n R)
def b63 : Prop :=
  pcodeX (cx w0) 122 lv n cuts Z (cAt code 63) 63 [(4, t4), (5, m)] σ (finQ (cx w0) Tryd.f48 n R)
def b0 : Prop :=
  pcodeX (cx w0) 122 lv n cuts Z code 0 (argsE 0 [a, b]) σ (finQ (cx w0) Tryd.f48 n R)
end
variable {Z : XT} {w0 : Base} {n : Nat} {R : RT} {σ τ : Store} {t4 m stack p a b t4' m' stack' p' : AV} {t49 : Bool} {t52 t53 t66 t67 t52' t53' t66' t67' : Int}
theorem n8_in (h : b9 (X w0 n) w0 n R σ t4 m stack) : n8 (X w0 n) w0 n R σ t4 m stack := xr_round (cxOK w0) (S := cuts) (by kernel_rfl : cAt code 8 = .loop (cAt code 9)) h
theorem n8_weak (e : EWeak (cx w0) n [(4, t4), (5, m), (6, stack)] σ [(4, t4'), (5, m'), (6, stack')] τ) (h : n8 (X w0 n) w0 n R τ t4' m' stack') : n8 (X w0 n) w0 n R σ t4 m stack := xr_weak (L := lv) (k := 8) (by kernel_rfl : cAt code 8 = .loop (cAt code 9)) e h
theorem b9_eq : b9 Z w0 n R σ t4 m stack = (
  opt (aLen ti116.td stack) fun t26 => isI .i64 t26 fun t26_1 => condB (decide ((t26_1 : Int) > 0)) (opt (aLen ti116.td stack) fun t30 => isI .i64 t30 fun t30_1 => opt (aIndexAddr σ tabS ti116.td stack (IntKind.wrap .i64 (t30_1 - 1))) fun t32 => opt (aLoad σ ti115 t32) fun t33 => SCalls (cx w0) myers_box_trim.id [t33] σ fun r σ' => opt (aStore (σ' ++ [.cells 115 (AV.ofValue ti115.zero).cells]) ti115 (.ptr (List.length σ') 0) r) fun σ'_1 => opt (aLen ti116.td stack) fun t37 => isI .i64 t37 fun t37_1 => opt (aSlice σ'_1 tabS ti116.td stack none (some (.pv (.int .i64 (IntKind.wrap .i64 (t37_1 - 1)))))) fun t39 => opt (aFieldAddr tabS ti115.td (.ptr (List.length σ') 0) 0) fun t40 => opt (aLoad σ'_1 ti43 t40) fun t41 => opt (aLen ti43.td t41) fun t42 => isI .i64 t42 fun t42_1 => condB ((t42_1 : Int) == 0) (n23 Z w0 n R σ'_1 t4 m t39 (.ptr (List.length σ') 0) true) (opt (aFieldAddr tabS ti115.td (.ptr (List.length σ') 0) 1) fun t45 => opt (aLoad σ'_1 ti43 t45) fun t46 => opt (aLen ti43.td t46) fun t47 => isI .i64 t47 fun t47_1 => n23 Z w0 n R σ'_1 t4 m t39 (.ptr (List.length σ') 0) ((t47_1 : Int) == 0))) (n63 Z w0 n R σ t4 m)) := by kernel_rfl
theorem b23_eq : b23 Z w0 n R σ t4 m stack p t49 = (
  condB t49 (opt (aFieldAddr tabS ti115.td p 0) fun t50 => opt (aLoad σ ti43 t50) fun t51 => opt (aLen ti43.td t51) fun t52 => isI .i64 t52 fun t52_1 => n28 Z w0 n R σ t4 m stack p t52_1 0) (n60 Z w0 n R σ t4 m stack p)) := by kernel_rfl
theorem n23_in (h : b23 (X w0 n) w0 n R σ t4 m stack p t49) : n23 (X w0 n) w0 n R σ t4 m stack p t49 := xr_in (S := cuts) (by kernel_rfl) h
theorem n28_in (h : b29 (X w0 n) w0 n R σ t4 m stack p t52 t53) : n28 (X w0 n) w0 n R σ t4 m stack p t52 t53 := xr_round (cxOK w0) (S := cuts) (by kernel_rfl : cAt code 28 = .loop (cAt code 29)) h
theorem b29_eq : b29 Z w0 n R σ t4 m stack p t52 t53 = (
  condB (decide ((t53 : Int) < t52)) (opt (aFieldAddr tabS ti107.td m 0) fun t56 => opt (aLoad σ ti58 t56) fun t57 => opt (aFieldAddr tabS ti115.td p 2) fun t58 => opt (aLoad σ ti3 t58) fun t59 => isI .i64 t59 fun t59_1 => opt (aIndexAddr σ tabS ti58.td t57 (IntKind.wrap .i64 (t59_1 + t53))) fun t62 => opt (aStore σ ti4 t62 (.pv (.bool true))) fun σ' => n28 Z w0 n R σ' t4 m stack p t52 (IntKind.wrap .i64 (t53 + 1))) (n41 Z w0 n R σ t4 m stack p)) := by kernel_rfl
theorem b41_eq : b41 Z w0 n R σ t4 m stack p = (
  opt (aFieldAddr tabS ti115.td p 1) fun t64 => opt (aLoad σ ti43 t64) fun t65 => opt (aLen ti43.td t65) fun t66 => isI .i64 t66 fun t66_1 => n45 Z w0 n R σ t4 m stack p t66_1 0) := by kernel_rfl
theorem n41_in (h : b41 (X w0 n) w0 n R σ t4 m stack p) : n41 (X w0 n) w0 n R σ t4 m stack p := xr_in (S := cuts) (by kernel_rfl) h
theorem n45_in (h : b46 (X w0 n) w0 n R σ t4 m stack p t66 t67) : n45 (X w0 n) w0 n R σ t4 m stack p t66 t67 := xr_round (cxOK w0) (S := cuts) (by kernel_rfl : cAt code 45 = .loop (cAt code 46)) h
theorem b46_eq : b46 Z w0 n R σ t4 m stack p t66 t67 = (
  condB (decide ((t67 : Int) < t66)) (opt (aFieldAddr tabS ti107.td m 1) fun t70 => opt (aLoad σ ti58 t70) fun t71 => opt (aFieldAddr tabS ti115.td p 3) fun t72 => opt (aLoad σ ti3 t72) fun t73 => isI .i64 t73 fun t73_1 => opt (aIndexAddr σ tabS ti58.td t71 (IntKind.wrap .i64 (t73_1 + t67))) fun t76 => opt (aStore σ ti4 t76 (.pv (.bool true))) fun σ' => n45 Z w0 n R σ' t4 m stack p t66 (IntKind.wrap .i64 (t67 + 1))) (n58 Z w0 n R σ t4 m stack)) := by kernel_rfl
theorem b58_eq : b58 Z w0 n R σ t4 m stack = (
  n8 Z w0 n R σ t4 m stack) := by kernel_rfl
theorem n58_in (h : b58 (X w0 n) w0 n R σ t4 m stack) : n58 (X w0 n) w0 n R σ t4 m stack := xr_in (S := cuts) (by kernel_rfl) h
theorem b60_eq : b60 Z w0 n R σ t4 m stack p = (
  opt (aFieldAddr tabS ti115.td p 0) fun t79 => opt (aLoad σ ti43 t79) fun t80 => opt (aFieldAddr tabS ti115.td p 1) fun t81 => opt (aLoad σ ti43 t81) fun t82 => SCalls (cx w0) myers_snake.id [t80, t82] σ fun r σ' => isTup r fun vs => opt ((vs)[0]?) fun t84 => isI .i64 t84 fun t84_1 => isTup r fun vs_1 => opt ((vs_1)[1]?) fun t85 => isI .i64 t85 fun t85_1 => isTup r fun vs_2 => opt ((vs_2)[2]?) fun t86 => isI .i64 t86 fun t86_1 => isTup r fun vs_3 => opt ((vs_3)[3]?) fun t87 => isI .i64 t87 fun t87_1 => opt (aFieldAddr tabS ti115.td p 0) fun t89 => opt (aLoad σ' ti43 t89) fun t90 => opt (aSlice σ' tabS ti43.td t90 none (some (.pv (.int .i64 t84_1)))) fun t92 => opt (aFieldAddr tabS ti115.td p 1) fun t93 => opt (aLoad σ' ti43 t93) fun t94 => opt (aSlice σ' tabS ti43.td t94 none (some (.pv (.int .i64 t85_1)))) fun t96 => opt (aFieldAddr tabS ti115.td p 2) fun t97 => opt (aLoad σ' ti3 t97) fun t98 => isI .i64 t98 fun t98_1 => opt (aFieldAddr tabS ti115.td p 3) fun t99 => opt (aLoad σ' ti3 t99) fun t100 => isI .i64 t100 fun t100_1 => opt (aBuild tabS ti115 [(0, t92), (1, t96), (2, (.pv (.int .i64 t98_1))), (3, (.pv (.int .i64 t100_1)))]) fun t101 => opt (aFieldAddr tabS ti115.td p 0) fun t102 => opt (aLoad σ' ti43 t102) fun t103 => opt (aSlice σ' tabS ti43.td t103 (some (.pv (.int .i64 t86_1))) none) fun t105 => opt (aFieldAddr tabS ti115.td p 1) fun t106 => opt (aLoad σ' ti43 t106) fun t107 => opt (aSlice σ' tabS ti43.td t107 (some (.pv (.int .i64 t87_1))) none) fun t109 => opt (aFieldAddr tabS ti115.td p 2) fun t110 => opt (aLoad σ' ti3 t110) fun t111 => isI .i64 t111 fun t111_1 => opt (aFieldAddr tabS ti115.td p 3) fun t114 => opt (aLoad σ' ti3 t114) fun t115 => isI .i64 t115 fun t115_1 => opt (aBuild tabS ti115 [(0, t105), (1, t109), (2, (.pv (.int .i64 (IntKind.wrap .i64 (t111_1 + t86_1))))), (3, (.pv (.int .i64 (IntKind.wrap .i64 (t115_1 + t87_1)))))]) fun t118 => opt2 (aBuildSlice σ' ti115 false 2 [(0, t101), (1, t118)]) fun t119 σ'_1 => opt2 (aAppendB true σ'_1 ti115 stack t119) fun t120 σ'_2 => n8 Z w0 n R σ'_2 t4 m t120) := by kernel_rfl
theorem n60_in (h : b60 (X w0 n) w0 n R σ t4 m stack p) : n60 (X w0 n) w0 n R σ t4 m stack p := xr_in (S := cuts) (by kernel_rfl) h
theorem b63_eq : b63 Z w0 n R σ t4 m = (
  opt (aLoad σ ti107 m) fun t121 => opt (aStore σ ti107 t4 t121) fun σ' => opt (aLoad σ' ti107 t4) fun v => FinK (cx w0) n v σ' R) := by kernel_rfl
theorem n63_in (h : b63 (X w0 n) w0 n R σ t4 m) : n63 (X w0 n) w0 n R σ t4 m := xr_in (S := cuts) (by kernel_rfl) h
theorem b0_eq : b0 Z w0 n R σ a b = (
  opt (aLen ti43.td a) fun t15 => isI .i64 t15 fun t15_1 => opt (mkObj 4 ti4 t15_1 t15_1) fun ob => opt (aLen ti43.td b) fun t18 => isI .i64 t18 fun t18_1 => opt (mkObj 4 ti4 t18_1 t18_1) fun ob_1 => opt (aBuild tabS ti107 [(0, (mkRes ti4 (List.length (σ ++ [.cells 107 (AV.ofValue ti107.zero).cells]) + 0) t15_1)), (1, (mkRes ti4 (List.length (σ ++ [.cells 107 (AV.ofValue ti107.zero).cells]) + 1) t18_1))]) fun t20 => opt (aStore ((σ ++ [.cells 107 (AV.ofValue ti107.zero).cells]) ++ [ob, ob_1, .cells 107 (AV.ofValue ti107.zero).cells]) ti107 (.ptr (List.length (σ ++ [.cells 107 (AV.ofValue ti107.zero).cells]) + 2) 0) t20) fun σ' => opt (aBuild tabS ti115 [(0, a), (1, b), (2, (.pv (.int .i64 0))), (3, (.pv (.int .i64 0)))]) fun t23 => opt2 (aBuildSlice σ' ti115 true 1 [(0, t23)]) fun t24 σ'_1 => n8 Z w0 n R σ'_1 (.ptr (List.length σ) 0) (.ptr (List.length (σ ++ [.cells 107 (AV.ofValue ti107.zero).cells]) + 2) 0) t24) := by kernel_rfl
theorem calls (h : b0 (X w0 (List.length σ)) w0 (List.length σ) R σ a b) : SCalls (cx w0) myers_mark.id [a, b] σ R :=
  xr_enter (cxOK w0) (x := fe) (S := cuts) (myers_mark.ok w0) (by kernel_rfl) h
attribute [irreducible] n8 b9 n23 b23 n28 b29 n41 b41 n45 b46 n58 b58 n60 b60 n63 b63 b0
end myers_mark
end Go.Sv
