/- What the code of Go functions comes to over abstract stores, piece by piece; each equation by the kernel. Printed by a program of this session. -/
import Derived.Test.YthkedonibhajbaaDoorSvT
import Derived.KernelRfl
set_option linter.unusedVariables false
set_option maxRecDepth 100000
namespace Go.Sv
open Go Go.Proofs
/-! ### selvage/stat.fits -/
def stat_fits.lvs : List (List Nat) := [[0], [0], [0], [0], [2]]
def stat_fits.lv : Nat → List Nat := lvOf stat_fits.lvs
noncomputable def stat_fits.code : Code := bodyOf Tryd.f23
noncomputable def stat_fits.fe : FE := ⟨Tryd.f23, stat_fits.code, stat_fits.lv⟩
def stat_fits.cuts : List Nat := []
abbrev stat_fits.X (w0 : Base) (n : Nat) : XT := xr (cx w0) 9 stat_fits.lv n
def stat_fits.b0 (X : XT) (w0 : Base) (n : Nat) (R : AV → Store → Prop) (σ : Store) (n_ : Int) : Prop :=
  pcodeX (cx w0) 9 stat_fits.lv n stat_fits.cuts X stat_fits.code 0 (argsE 0 [(.pv (.int .i64 n_))]) σ (finQ (cx w0) Tryd.f23 n R)
theorem stat_fits.b0_eq (X : XT) (w0 : Base) (n : Nat) (R : AV → Store → Prop) (σ : Store) (n_ : Int) : stat_fits.b0 X w0 n R σ n_ = (
  condB (decide ((n_ : Int) ≥ 0)) (FinK (cx w0) n (.pv (.bool (decide ((n_ : Int) ≤ 2147483647)))) σ R) (FinK (cx w0) n (.pv (.bool false)) σ R)) := by kernel_rfl
theorem stat_fits.ok (w0 : Base) : FOK (cx w0) stat_fits.id stat_fits.fe := ⟨Tryd.func23, by kernel_rfl, by kernel_rfl⟩
theorem stat_fits.calls {w0 : Base} {R : AV → Store → Prop} {σ : Store} {n_ : Int} (h : stat_fits.b0 (stat_fits.X w0 (List.length σ)) w0 (List.length σ) R σ n_) : SCalls (cx w0) stat_fits.id [(.pv (.int .i64 n_))] σ R :=
  xr_enter (cxOK w0) (x := stat_fits.fe) (S := stat_fits.cuts) (stat_fits.ok w0) (by kernel_rfl) h
/-! ### selvage/stat.Bar$1 -/
def stat_Bar_1.lvs : List (List Nat) := [[0, 1, 2], [0, 1, 2], [0, 1, 2], [0, 1, 2], [0, 1, 2], [0, 1, 2, 6], [], [], [4], [0, 1, 2], [0, 1, 2], [0, 1, 2], [4]]
def stat_Bar_1.lv : Nat → List Nat := lvOf stat_Bar_1.lvs
noncomputable def stat_Bar_1.code : Code := bodyOf Tryd.f24
noncomputable def stat_Bar_1.fe : FE := ⟨Tryd.f24, stat_Bar_1.code, stat_Bar_1.lv⟩
def stat_Bar_1.cuts : List Nat := []
abbrev stat_Bar_1.X (w0 : Base) (n : Nat) : XT := xr (cx w0) 14 stat_Bar_1.lv n
def stat_Bar_1.b0 (X : XT) (w0 : Base) (n : Nat) (R : AV → Store → Prop) (σ : Store) (x : Int) (t1 : AV) (t2 : AV) : Prop :=
  pcodeX (cx w0) 14 stat_Bar_1.lv n stat_Bar_1.cuts X stat_Bar_1.code 0 (argsE 0 [(.pv (.int .i64 x)), t1, t2]) σ (finQ (cx w0) Tryd.f24 n R)
theorem stat_Bar_1.b0_eq (X : XT) (w0 : Base) (n : Nat) (R : AV → Store → Prop) (σ : Store) (x : Int) (t1 : AV) (t2 : AV) : stat_Bar_1.b0 X w0 n R σ x t1 t2 = (
  condB ((x : Int) == 0) (FinK (cx w0) n (.pv (.int .i64 0)) σ R) (opt (aLoad σ ti3 t1) fun t8 => isI .i64 t8 fun t8_1 => opt (aLoad σ ti3 t2) fun t11 => isI .i64 t11 fun t11_1 => ((t11_1 : Int) ≠ 0 ∧ (FinK (cx w0) n (.pv (.int .i64 (IntKind.wrap .i64 (1 + (IntKind.wrap .i64 (Int.tdiv (IntKind.wrap .i64 (x * (IntKind.wrap .i64 (t8_1 - 1)))) t11_1)))))) σ R)))) := by kernel_rfl
theorem stat_Bar_1.ok (w0 : Base) : FOK (cx w0) stat_Bar_1.id stat_Bar_1.fe := ⟨Tryd.func24, by kernel_rfl, by kernel_rfl⟩
theorem stat_Bar_1.calls {w0 : Base} {R : AV → Store → Prop} {σ : Store} {x : Int} {t1 : AV} {t2 : AV} (h : stat_Bar_1.b0 (stat_Bar_1.X w0 (List.length σ)) w0 (List.length σ) R σ x t1 t2) : SCalls (cx w0) stat_Bar_1.id [(.pv (.int .i64 x)), t1, t2] σ R :=
  xr_enter (cxOK w0) (x := stat_Bar_1.fe) (S := stat_Bar_1.cuts) (stat_Bar_1.ok w0) (by kernel_rfl) h
/-! ### selvage/stat.Bar -/
def stat_Bar.lvs : List (List Nat) := [[0, 1, 2, 3], [0, 1, 2, 3], [0, 1, 6, 7], [0, 1, 6, 7], [0, 1, 6, 7], [0, 1, 6, 7, 41], [], [], [8, 9], [0, 1, 6, 7], [0, 1, 6, 7], [0, 1, 6, 7], [0, 1, 6, 7], [0, 1, 6, 7, 44], [0, 1], [0, 1], [8, 9], [0, 1, 6, 7], [0, 1, 6, 7], [0, 1, 6, 7], [0, 1, 10], [0, 1, 10], [0, 1, 10, 11], [0, 1, 10, 11], [0, 1, 10, 11, 12], [0, 1, 10, 11, 12], [0, 1, 10, 11, 12], [0, 1, 10, 11, 12, 59], [0, 1, 10, 11, 12], [0, 1, 10, 11, 12], [0, 1, 10, 11, 12], [0, 1, 10, 11, 12], [0, 1, 11, 12, 13], [0, 1, 11, 12, 13], [0, 1, 11, 12, 13], [0, 1, 12, 13, 67], [0, 1, 12, 13], [0, 1, 12, 13], [0, 1, 12, 13], [0, 1, 12, 13], [0, 1, 12, 13], [12, 13, 75], [12, 13], [12, 13], [8, 9], [12, 13], [12, 13], [12, 13], [8, 9]]
def stat_Bar.lv : Nat → List Nat := lvOf stat_Bar.lvs
noncomputable def stat_Bar.code : Code := bodyOf Tryd.f8
noncomputable def stat_Bar.fe : FE := ⟨Tryd.f8, stat_Bar.code, stat_Bar.lv⟩
def stat_Bar.cuts : List Nat := [30, 38]
abbrev stat_Bar.X (w0 : Base) (n : Nat) : XT := xr (cx w0) 84 stat_Bar.lv n
def stat_Bar.n30 (X : XT) (w0 : Base) (n : Nat) (R : AV → Store → Prop) (σ : Store) (adds : Int) (dels : Int) (scaled : AV) (both : Bool) (length : Int) : Prop :=
  X (cAt stat_Bar.code 30) 30 [(0, (.pv (.int .i64 adds))), (1, (.pv (.int .i64 dels))), (10, scaled), (11, (.pv (.bool both))), (12, (.pv (.int .i64 length)))] σ (finQ (cx w0) Tryd.f8 n R)
def stat_Bar.b30 (X : XT) (w0 : Base) (n : Nat) (R : AV → Store → Prop) (σ : Store) (adds : Int) (dels : Int) (scaled : AV) (both : Bool) (length : Int) : Prop :=
  pcodeX (cx w0) 84 stat_Bar.lv n stat_Bar.cuts X (cAt stat_Bar.code 30) 30 [(0, (.pv (.int .i64 adds))), (1, (.pv (.int .i64 dels))), (10, scaled), (11, (.pv (.bool both))), (12, (.pv (.int .i64 length)))] σ (finQ (cx w0) Tryd.f8 n R)
def stat_Bar.n38 (X : XT) (w0 : Base) (n : Nat) (R : AV → Store → Prop) (σ : Store) (adds : Int) (dels : Int) (length : Int) (few : Int) : Prop :=
  X (cAt stat_Bar.code 38) 38 [(0, (.pv (.int .i64 adds))), (1, (.pv (.int .i64 dels))), (12, (.pv (.int .i64 length))), (13, (.pv (.int .i64 few)))] σ (finQ (cx w0) Tryd.f8 n R)
def stat_Bar.b38 (X : XT) (w0 : Base) (n : Nat) (R : AV → Store → Prop) (σ : Store) (adds : Int) (dels : Int) (length : Int) (few : Int) : Prop :=
  pcodeX (cx w0) 84 stat_Bar.lv n stat_Bar.cuts X (cAt stat_Bar.code 38) 38 [(0, (.pv (.int .i64 adds))), (1, (.pv (.int .i64 dels))), (12, (.pv (.int .i64 length))), (13, (.pv (.int .i64 few)))] σ (finQ (cx w0) Tryd.f8 n R)
def stat_Bar.b0 (X : XT) (w0 : Base) (n : Nat) (R : AV → Store → Prop) (σ : Store) (adds : Int) (dels : Int) (width : Int) (most : Int) : Prop :=
  pcodeX (cx w0) 84 stat_Bar.lv n stat_Bar.cuts X stat_Bar.code 0 (argsE 0 [(.pv (.int .i64 adds)), (.pv (.int .i64 dels)), (.pv (.int .i64 width)), (.pv (.int .i64 most))]) σ (finQ (cx w0) Tryd.f8 n R)
theorem stat_Bar.b30_eq (X : XT) (w0 : Base) (n : Nat) (R : AV → Store → Prop) (σ : Store) (adds : Int) (dels : Int) (scaled : AV) (both : Bool) (length : Int) : stat_Bar.b30 X w0 n R σ adds dels scaled both length = (
  opt (calleeV scaled [(.pv (.int .i64 (if (dels : Int) < adds then dels else adds)))]) fun p => SCalls (cx w0) (Prod.fst p) (Prod.snd p) σ fun r σ' => isI .i64 r fun t66 => condB both (stat_Bar.n38 X w0 n R σ' adds dels length (if ((IntKind.wrap .i64 (length - 1)) : Int) < (if (1 : Int) > t66 then 1 else t66) then (IntKind.wrap .i64 (length - 1)) else (if (1 : Int) > t66 then 1 else t66))) (stat_Bar.n38 X w0 n R σ' adds dels length t66)) := by kernel_rfl
theorem stat_Bar.n30_in {w0 : Base} {n : Nat} {R : AV → Store → Prop} {σ : Store} {adds : Int} {dels : Int} {scaled : AV} {both : Bool} {length : Int} (h : stat_Bar.b30 (stat_Bar.X w0 n) w0 n R σ adds dels scaled both length) : stat_Bar.n30 (stat_Bar.X w0 n) w0 n R σ adds dels scaled both length := xr_in (S := stat_Bar.cuts) (by kernel_rfl) h
theorem stat_Bar.b38_eq (X : XT) (w0 : Base) (n : Nat) (R : AV → Store → Prop) (σ : Store) (adds : Int) (dels : Int) (length : Int) (few : Int) : stat_Bar.b38 X w0 n R σ adds dels length few = (
  condB (decide ((adds : Int) ≤ dels)) (FinK (cx w0) n (.tup [(.pv (.int .i64 few)), (.pv (.int .i64 (IntKind.wrap .i64 (length - few))))]) σ R) (FinK (cx w0) n (.tup [(.pv (.int .i64 (IntKind.wrap .i64 (length - few)))), (.pv (.int .i64 few))]) σ R)) := by kernel_rfl
theorem stat_Bar.n38_in {w0 : Base} {n : Nat} {R : AV → Store → Prop} {σ : Store} {adds : Int} {dels : Int} {length : Int} {few : Int} (h : stat_Bar.b38 (stat_Bar.X w0 n) w0 n R σ adds dels length few) : stat_Bar.n38 (stat_Bar.X w0 n) w0 n R σ adds dels length few := xr_in (S := stat_Bar.cuts) (by kernel_rfl) h
theorem stat_Bar.b0_eq (X : XT) (w0 : Base) (n : Nat) (R : AV → Store → Prop) (σ : Store) (adds : Int) (dels : Int) (width : Int) (most : Int) : stat_Bar.b0 X w0 n R σ adds dels width most = (
  ((AV.cells (.pv (.int .i64 width))).all AV.one = true ∧ (((AV.cells (.pv (.int .i64 most))).all AV.one = true ∧ (SCalls (cx w0) stat_fits.id [(.pv (.int .i64 adds))] ((σ ++ [.cells 3 (AV.cells (.pv (.int .i64 width)))]) ++ [.cells 3 (AV.cells (.pv (.int .i64 most)))]) fun r σ' => isB r fun t15 => condB (!t15) (FinK (cx w0) n (.tup [(.pv (.int .i64 0)), (.pv (.int .i64 0))]) σ' R) (SCalls (cx w0) stat_fits.id [(.pv (.int .i64 dels))] σ' fun r_1 σ'_1 => isB r_1 fun t19 => condB (!t19) (FinK (cx w0) n (.tup [(.pv (.int .i64 0)), (.pv (.int .i64 0))]) σ'_1 R) (opt (aLoad σ'_1 ti3 (.ptr (List.length σ) 0)) fun t23 => isI .i64 t23 fun t23_1 => SCalls (cx w0) stat_fits.id [(.pv (.int .i64 t23_1))] σ'_1 fun r_2 σ'_2 => isB r_2 fun t24 => condB (!t24) (FinK (cx w0) n (.tup [(.pv (.int .i64 0)), (.pv (.int .i64 0))]) σ'_2 R) (opt (aLoad σ'_2 ti3 (.ptr (List.length (σ ++ [.cells 3 (AV.cells (.pv (.int .i64 width)))])) 0)) fun t28 => isI .i64 t28 fun t28_1 => condB (decide ((t28_1 : Int) > 4294967294)) (FinK (cx w0) n (.tup [(.pv (.int .i64 0)), (.pv (.int .i64 0))]) σ'_2 R) (opt (aLoad σ'_2 ti3 (.ptr (List.length σ) 0)) fun t32 => isI .i64 t32 fun t32_1 => condB (decide ((t32_1 : Int) < 2)) (FinK (cx w0) n (.tup [(.pv (.int .i64 0)), (.pv (.int .i64 0))]) σ'_2 R) (opt (aLoad σ'_2 ti3 (.ptr (List.length (σ ++ [.cells 3 (AV.cells (.pv (.int .i64 width)))])) 0)) fun t36 => isI .i64 t36 fun t36_1 => condB (decide ((t36_1 : Int) < (IntKind.wrap .i64 (adds + dels)))) (FinK (cx w0) n (.tup [(.pv (.int .i64 0)), (.pv (.int .i64 0))]) σ'_2 R) (opt (aLoad σ'_2 ti3 (.ptr (List.length (σ ++ [.cells 3 (AV.cells (.pv (.int .i64 width)))])) 0)) fun t42 => isI .i64 t42 fun t42_1 => opt (aLoad σ'_2 ti3 (.ptr (List.length σ) 0)) fun t43 => isI .i64 t43 fun t43_1 => condB (decide ((t42_1 : Int) ≤ t43_1)) (FinK (cx w0) n (.tup [(.pv (.int .i64 adds)), (.pv (.int .i64 dels))]) σ'_2 R) (condB (decide ((adds : Int) > 0)) (opt (calleeV (.func (.func 24) [] [(.ptr (List.length σ) 0), (.ptr (List.length (σ ++ [.cells 3 (AV.cells (.pv (.int .i64 width)))])) 0)]) [(.pv (.int .i64 (IntKind.wrap .i64 (adds + dels))))]) fun p => SCalls (cx w0) (Prod.fst p) (Prod.snd p) σ'_2 fun r_3 σ'_3 => isI .i64 r_3 fun t58 => condB (decide ((dels : Int) > 0)) (stat_Bar.n30 X w0 n R σ'_3 adds dels (.func (.func 24) [] [(.ptr (List.length σ) 0), (.ptr (List.length (σ ++ [.cells 3 (AV.cells (.pv (.int .i64 width)))])) 0)]) (decide ((dels : Int) > 0)) (if (2 : Int) > t58 then 2 else t58)) (stat_Bar.n30 X w0 n R σ'_3 adds dels (.func (.func 24) [] [(.ptr (List.length σ) 0), (.ptr (List.length (σ ++ [.cells 3 (AV.cells (.pv (.int .i64 width)))])) 0)]) (decide ((dels : Int) > 0)) t58)) (opt (calleeV (.func (.func 24) [] [(.ptr (List.length σ) 0), (.ptr (List.length (σ ++ [.cells 3 (AV.cells (.pv (.int .i64 width)))])) 0)]) [(.pv (.int .i64 (IntKind.wrap .i64 (adds + dels))))]) fun p => SCalls (cx w0) (Prod.fst p) (Prod.snd p) σ'_2 fun r_3 σ'_3 => isI .i64 r_3 fun t58 => stat_Bar.n30 X w0 n R σ'_3 adds dels (.func (.func 24) [] [(.ptr (List.length σ) 0), (.ptr (List.length (σ ++ [.cells 3 (AV.cells (.pv (.int .i64 width)))])) 0)]) false t58))))))))))))) := by kernel_rfl
theorem stat_Bar.ok (w0 : Base) : FOK (cx w0) stat_Bar.id stat_Bar.fe := ⟨Tryd.func8, by kernel_rfl, by kernel_rfl⟩
theorem stat_Bar.calls {w0 : Base} {R : AV → Store → Prop} {σ : Store} {adds : Int} {dels : Int} {width : Int} {most : Int} (h : stat_Bar.b0 (stat_Bar.X w0 (List.length σ)) w0 (List.length σ) R σ adds dels width most) : SCalls (cx w0) stat_Bar.id [(.pv (.int .i64 adds)), (.pv (.int .i64 dels)), (.pv (.int .i64 width)), (.pv (.int .i64 most))] σ R :=
  xr_enter (cxOK w0) (x := stat_Bar.fe) (S := stat_Bar.cuts) (stat_Bar.ok w0) (by kernel_rfl) h
/-! ### selvage/selvageref16.in -/
def selvageref16_in.lvs : List (List Nat) := [[0], [0], [0], [0], [2]]
def selvageref16_in.lv : Nat → List Nat := lvOf selvageref16_in.lvs
noncomputable def selvageref16_in.code : Code := bodyOf Tryd.f25
noncomputable def selvageref16_in.fe : FE := ⟨Tryd.f25, selvageref16_in.code, selvageref16_in.lv⟩
def selvageref16_in.cuts : List Nat := []
abbrev selvageref16_in.X (w0 : Base) (n : Nat) : XT := xr (cx w0) 9 selvageref16_in.lv n
def selvageref16_in.b0 (X : XT) (w0 : Base) (n : Nat) (R : AV → Store → Prop) (σ : Store) (n_ : Int) : Prop :=
  pcodeX (cx w0) 9 selvageref16_in.lv n selvageref16_in.cuts X selvageref16_in.code 0 (argsE 0 [(.pv (.int .i64 n_))]) σ (finQ (cx w0) Tryd.f25 n R)
theorem selvageref16_in.b0_eq (X : XT) (w0 : Base) (n : Nat) (R : AV → Store → Prop) (σ : Store) (n_ : Int) : selvageref16_in.b0 X w0 n R σ n_ = (
  condB (decide ((n_ : Int) ≥ 0)) (FinK (cx w0) n (.pv (.bool (decide ((n_ : Int) ≤ 2147483647)))) σ R) (FinK (cx w0) n (.pv (.bool false)) σ R)) := by kernel_rfl
theorem selvageref16_in.ok (w0 : Base) : FOK (cx w0) selvageref16_in.id selvageref16_in.fe := ⟨Tryd.func25, by kernel_rfl, by kernel_rfl⟩
theorem selvageref16_in.calls {w0 : Base} {R : AV → Store → Prop} {σ : Store} {n_ : Int} (h : selvageref16_in.b0 (selvageref16_in.X w0 (List.length σ)) w0 (List.length σ) R σ n_) : SCalls (cx w0) selvageref16_in.id [(.pv (.int .i64 n_))] σ R :=
  xr_enter (cxOK w0) (x := selvageref16_in.fe) (S := selvageref16_in.cuts) (selvageref16_in.ok w0) (by kernel_rfl) h
/-! ### selvage/selvageref16.scaled -/
def selvageref16_scaled.lvs : List (List Nat) := [[0, 1, 2], [0, 1, 2], [0, 1, 2], [0, 1, 2], [0, 1, 2], [0, 1, 2, 8], [], [], [6], [0, 1, 2], [0, 1, 2], [0, 1, 2], [6]]
def selvageref16_scaled.lv : Nat → List Nat := lvOf selvageref16_scaled.lvs
noncomputable def selvageref16_scaled.code : Code := bodyOf Tryd.f26
noncomputable def selvageref16_scaled.fe : FE := ⟨Tryd.f26, selvageref16_scaled.code, selvageref16_scaled.lv⟩
def selvageref16_scaled.cuts : List Nat := []
abbrev selvageref16_scaled.X (w0 : Base) (n : Nat) : XT := xr (cx w0) 16 selvageref16_scaled.lv n
def selvageref16_scaled.b0 (X : XT) (w0 : Base) (n : Nat) (R : AV → Store → Prop) (σ : Store) (x : Int) (width : Int) (most : Int) : Prop :=
  pcodeX (cx w0) 16 selvageref16_scaled.lv n selvageref16_scaled.cuts X selvageref16_scaled.code 0 (argsE 0 [(.pv (.int .i64 x)), (.pv (.int .i64 width)), (.pv (.int .i64 most))]) σ (finQ (cx w0) Tryd.f26 n R)
theorem selvageref16_scaled.b0_eq (X : XT) (w0 : Base) (n : Nat) (R : AV → Store → Prop) (σ : Store) (x : Int) (width : Int) (most : Int) : selvageref16_scaled.b0 X w0 n R σ x width most = (
  condB ((x : Int) == 0) (FinK (cx w0) n (.pv (.int .i64 0)) σ R) (((most : Int) ≠ 0 ∧ (FinK (cx w0) n (.pv (.int .i64 (IntKind.wrap .i64 (1 + (IntKind.wrap .i64 (Int.tdiv (IntKind.wrap .i64 (x * (IntKind.wrap .i64 (width - 1)))) most)))))) σ R)))) := by kernel_rfl
theorem selvageref16_scaled.ok (w0 : Base) : FOK (cx w0) selvageref16_scaled.id selvageref16_scaled.fe := ⟨Tryd.func26, by kernel_rfl, by kernel_rfl⟩
theorem selvageref16_scaled.calls {w0 : Base} {R : AV → Store → Prop} {σ : Store} {x : Int} {width : Int} {most : Int} (h : selvageref16_scaled.b0 (selvageref16_scaled.X w0 (List.length σ)) w0 (List.length σ) R σ x width most) : SCalls (cx w0) selvageref16_scaled.id [(.pv (.int .i64 x)), (.pv (.int .i64 width)), (.pv (.int .i64 most))] σ R :=
  xr_enter (cxOK w0) (x := selvageref16_scaled.fe) (S := selvageref16_scaled.cuts) (selvageref16_scaled.ok w0) (by kernel_rfl) h
/-! ### selvage/selvageref16.Bar -/
def selvageref16_Bar.lvs : List (List Nat) := [[0, 1, 2, 3], [0, 1, 2, 3], [0, 1, 2, 3], [0, 1, 2, 3], [0, 1, 2, 3], [0, 1, 2, 3, 40], [], [], [8, 9], [0, 1, 2, 3], [0, 1, 2, 3], [0, 1, 2, 3], [0, 1, 2, 3], [0, 1, 2, 3, 43], [0, 1], [0, 1], [8, 9], [0, 1, 2, 3], [0, 1, 2, 3], [0, 1, 2, 3], [0, 1, 2, 3, 10], [0, 1, 2, 3, 10], [0, 1, 2, 3, 10], [0, 1, 2, 3, 10, 57], [0, 1, 2, 3, 10], [0, 1, 2, 3, 10], [0, 1, 2, 3, 10], [0, 1, 2, 3, 10], [0, 1, 2, 3, 10], [0, 1, 2, 3, 10, 62], [0, 2, 3, 10], [0, 2, 3, 10], [10, 11], [10, 11], [8, 9], [1, 2, 3, 10], [1, 2, 3, 10], [1, 2, 3, 10], [10, 12], [10, 12], [8, 9]]
def selvageref16_Bar.lv : Nat → List Nat := lvOf selvageref16_Bar.lvs
noncomputable def selvageref16_Bar.code : Code := bodyOf Tryd.f9
noncomputable def selvageref16_Bar.fe : FE := ⟨Tryd.f9, selvageref16_Bar.code, selvageref16_Bar.lv⟩
def selvageref16_Bar.cuts : List Nat := [26]
abbrev selvageref16_Bar.X (w0 : Base) (n : Nat) : XT := xr (cx w0) 79 selvageref16_Bar.lv n
def selvageref16_Bar.n26 (X : XT) (w0 : Base) (n : Nat) (R : AV → Store → Prop) (σ : Store) (adds : Int) (dels : Int) (width : Int) (most : Int) (long : Int) : Prop :=
  X (cAt selvageref16_Bar.code 26) 26 [(0, (.pv (.int .i64 adds))), (1, (.pv (.int .i64 dels))), (2, (.pv (.int .i64 width))), (3, (.pv (.int .i64 most))), (10, (.pv (.int .i64 long)))] σ (finQ (cx w0) Tryd.f9 n R)
def selvageref16_Bar.b26 (X : XT) (w0 : Base) (n : Nat) (R : AV → Store → Prop) (σ : Store) (adds : Int) (dels : Int) (width : Int) (most : Int) (long : Int) : Prop :=
  pcodeX (cx w0) 79 selvageref16_Bar.lv n selvageref16_Bar.cuts X (cAt selvageref16_Bar.code 26) 26 [(0, (.pv (.int .i64 adds))), (1, (.pv (.int .i64 dels))), (2, (.pv (.int .i64 width))), (3, (.pv (.int .i64 most))), (10, (.pv (.int .i64 long)))] σ (finQ (cx w0) Tryd.f9 n R)
def selvageref16_Bar.b0 (X : XT) (w0 : Base) (n : Nat) (R : AV → Store → Prop) (σ : Store) (adds : Int) (dels : Int) (width : Int) (most : Int) : Prop :=
  pcodeX (cx w0) 79 selvageref16_Bar.lv n selvageref16_Bar.cuts X selvageref16_Bar.code 0 (argsE 0 [(.pv (.int .i64 adds)), (.pv (.int .i64 dels)), (.pv (.int .i64 width)), (.pv (.int .i64 most))]) σ (finQ (cx w0) Tryd.f9 n R)
theorem selvageref16_Bar.b26_eq (X : XT) (w0 : Base) (n : Nat) (R : AV → Store → Prop) (σ : Store) (adds : Int) (dels : Int) (width : Int) (most : Int) (long : Int) : selvageref16_Bar.b26 X w0 n R σ adds dels width most long = (
  condB (decide ((adds : Int) ≤ dels)) (SCalls (cx w0) selvageref16_scaled.id [(.pv (.int .i64 adds)), (.pv (.int .i64 width)), (.pv (.int .i64 most))] σ fun r σ' => isI .i64 r fun t66 => FinK (cx w0) n (.tup [(.pv (.int .i64 t66)), (.pv (.int .i64 (IntKind.wrap .i64 (long - t66))))]) σ' R) (SCalls (cx w0) selvageref16_scaled.id [(.pv (.int .i64 dels)), (.pv (.int .i64 width)), (.pv (.int .i64 most))] σ fun r σ' => isI .i64 r fun t74 => FinK (cx w0) n (.tup [(.pv (.int .i64 (IntKind.wrap .i64 (long - t74)))), (.pv (.int .i64 t74))]) σ' R)) := by kernel_rfl
theorem selvageref16_Bar.n26_in {w0 : Base} {n : Nat} {R : AV → Store → Prop} {σ : Store} {adds : Int} {dels : Int} {width : Int} {most : Int} {long : Int} (h : selvageref16_Bar.b26 (selvageref16_Bar.X w0 n) w0 n R σ adds dels width most long) : selvageref16_Bar.n26 (selvageref16_Bar.X w0 n) w0 n R σ adds dels width most long := xr_in (S := selvageref16_Bar.cuts) (by kernel_rfl) h
theorem selvageref16_Bar.b0_eq (X : XT) (w0 : Base) (n : Nat) (R : AV → Store → Prop) (σ : Store) (adds : Int) (dels : Int) (width : Int) (most : Int) : selvageref16_Bar.b0 X w0 n R σ adds dels width most = (
  SCalls (cx w0) selvageref16_in.id [(.pv (.int .i64 adds))] σ fun r σ' => isB r fun t14 => condB (!t14) (FinK (cx w0) n (.tup [(.pv (.int .i64 0)), (.pv (.int .i64 0))]) σ' R) (SCalls (cx w0) selvageref16_in.id [(.pv (.int .i64 dels))] σ' fun r_1 σ'_1 => isB r_1 fun t18 => condB (!t18) (FinK (cx w0) n (.tup [(.pv (.int .i64 0)), (.pv (.int .i64 0))]) σ'_1 R) (SCalls (cx w0) selvageref16_in.id [(.pv (.int .i64 width))] σ'_1 fun r_2 σ'_2 => isB r_2 fun t23 => condB (!t23) (FinK (cx w0) n (.tup [(.pv (.int .i64 0)), (.pv (.int .i64 0))]) σ'_2 R) (condB (decide ((width : Int) < 2)) (FinK (cx w0) n (.tup [(.pv (.int .i64 0)), (.pv (.int .i64 0))]) σ'_2 R) (condB (decide ((most : Int) < (IntKind.wrap .i64 (adds + dels)))) (FinK (cx w0) n (.tup [(.pv (.int .i64 0)), (.pv (.int .i64 0))]) σ'_2 R) (condB (decide ((most : Int) > 4294967294)) (FinK (cx w0) n (.tup [(.pv (.int .i64 0)), (.pv (.int .i64 0))]) σ'_2 R) (condB (decide ((most : Int) ≤ width)) (FinK (cx w0) n (.tup [(.pv (.int .i64 adds)), (.pv (.int .i64 dels))]) σ'_2 R) (SCalls (cx w0) selvageref16_scaled.id [(.pv (.int .i64 (IntKind.wrap .i64 (adds + dels)))), (.pv (.int .i64 width)), (.pv (.int .i64 most))] σ'_2 fun r_3 σ'_3 => isI .i64 r_3 fun t51 => condB (decide ((adds : Int) > 0)) (condB (decide ((dels : Int) > 0)) (selvageref16_Bar.n26 X w0 n R σ'_3 adds dels width most (if (2 : Int) > t51 then 2 else t51)) (selvageref16_Bar.n26 X w0 n R σ'_3 adds dels width most t51)) (selvageref16_Bar.n26 X w0 n R σ'_3 adds dels width most t51))))))))) := by kernel_rfl
theorem selvageref16_Bar.ok (w0 : Base) : FOK (cx w0) selvageref16_Bar.id selvageref16_Bar.fe := ⟨Tryd.func9, by kernel_rfl, by kernel_rfl⟩
theorem selvageref16_Bar.calls {w0 : Base} {R : AV → Store → Prop} {σ : Store} {adds : Int} {dels : Int} {width : Int} {most : Int} (h : selvageref16_Bar.b0 (selvageref16_Bar.X w0 (List.length σ)) w0 (List.length σ) R σ adds dels width most) : SCalls (cx w0) selvageref16_Bar.id [(.pv (.int .i64 adds)), (.pv (.int .i64 dels)), (.pv (.int .i64 width)), (.pv (.int .i64 most))] σ R :=
  xr_enter (cxOK w0) (x := selvageref16_Bar.fe) (S := selvageref16_Bar.cuts) (selvageref16_Bar.ok w0) (by kernel_rfl) h
/-! ### selvage/selvagelaw16.num -/
def selvagelaw16_num.lvs : List (List Nat) := [[0], [0], [0], [0], [0], [0, 5], [], [], [2], [0], [0], [0], [0, 3], [0, 3], [0, 3], [3, 9], [], [], [2], [3], [3], [3], [2]]
def selvagelaw16_num.lv : Nat → List Nat := lvOf selvagelaw16_num.lvs
noncomputable def selvagelaw16_num.code : Code := bodyOf Tryd.f16
noncomputable def selvagelaw16_num.fe : FE := ⟨Tryd.f16, selvagelaw16_num.code, selvagelaw16_num.lv⟩
def selvagelaw16_num.cuts : List Nat := []
abbrev selvagelaw16_num.X (w0 : Base) (n : Nat) : XT := xr (cx w0) 11 selvagelaw16_num.lv n
def selvagelaw16_num.b0 (X : XT) (w0 : Base) (n : Nat) (R : AV → Store → Prop) (σ : Store) (e_ : AV) : Prop :=
  pcodeX (cx w0) 11 selvagelaw16_num.lv n selvagelaw16_num.cuts X selvagelaw16_num.code 0 (argsE 0 [e_]) σ (finQ (cx w0) Tryd.f16 n R)
theorem selvagelaw16_num.b0_eq (X : XT) (w0 : Base) (n : Nat) (R : AV → Store → Prop) (σ : Store) (e_ : AV) : selvagelaw16_num.b0 X w0 n R σ e_ = (
  aBinK tabS 30 true .eql e_ (.pv (.raw .nilIface)) fun v => isB v fun b => condB b (FinK (cx w0) n (.pv (.int .i64 0)) σ R) (opt (aMakeInterface 77 (.ptr (List.length σ) 0)) fun t7 => SCalls (cx w0) errors_As.id [e_, t7] (σ ++ [.cells 59 (AV.ofValue ti59.zero).cells]) fun r σ' => isB r fun t8 => condB (!t8) (FinK (cx w0) n (.pv (.int .i64 (-1))) σ' R) (opt (aLoad σ' ti59 (.ptr (List.length σ) 0)) fun t10 => isI .i64 t10 fun t10_1 => FinK (cx w0) n (.pv (.int .i64 t10_1)) σ' R))) := by kernel_rfl
theorem selvagelaw16_num.ok (w0 : Base) : FOK (cx w0) selvagelaw16_num.id selvagelaw16_num.fe := ⟨Tryd.func16, by kernel_rfl, by kernel_rfl⟩
theorem selvagelaw16_num.calls {w0 : Base} {R : AV → Store → Prop} {σ : Store} {e_ : AV} (h : selvagelaw16_num.b0 (selvagelaw16_num.X w0 (List.length σ)) w0 (List.length σ) R σ e_) : SCalls (cx w0) selvagelaw16_num.id [e_] σ R :=
  xr_enter (cxOK w0) (x := selvagelaw16_num.fe) (S := selvagelaw16_num.cuts) (selvagelaw16_num.ok w0) (by kernel_rfl) h
/-! ### selvage/selvagelaw16.StatBars -/
def selvagelaw16_StatBars.lvs : List (List Nat) := [[0], [0], [1], [1], [1, 3, 4], [1, 3, 4], [3, 4, 5, 6], [3, 4, 5, 6], [2]]
def selvagelaw16_StatBars.lv : Nat → List Nat := lvOf selvagelaw16_StatBars.lvs
noncomputable def selvagelaw16_StatBars.code : Code := bodyOf Tryd.f3
noncomputable def selvagelaw16_StatBars.fe : FE := ⟨Tryd.f3, selvagelaw16_StatBars.code, selvagelaw16_StatBars.lv⟩
def selvagelaw16_StatBars.cuts : List Nat := []
abbrev selvagelaw16_StatBars.X (w0 : Base) (n : Nat) : XT := xr (cx w0) 42 selvagelaw16_StatBars.lv n
def selvagelaw16_StatBars.b0 (X : XT) (w0 : Base) (n : Nat) (R : AV → Store → Prop) (σ : Store) (b : AV) : Prop :=
  pcodeX (cx w0) 42 selvagelaw16_StatBars.lv n selvagelaw16_StatBars.cuts X selvagelaw16_StatBars.code 0 (argsE 0 [b]) σ (finQ (cx w0) Tryd.f3 n R)
theorem selvagelaw16_StatBars.b0_eq (X : XT) (w0 : Base) (n : Nat) (R : AV → Store → Prop) (σ : Store) (b : AV) : selvagelaw16_StatBars.b0 X w0 n R σ b = (
  ((AV.cells b).all AV.one = true ∧ (opt (aFieldAddr tabS ti23.td (.ptr (List.length σ) 0) 0) fun t8 => opt (aLoad (σ ++ [.cells 23 (AV.cells b)]) ti3 t8) fun t9 => isI .i64 t9 fun t9_1 => opt (aFieldAddr tabS ti23.td (.ptr (List.length σ) 0) 1) fun t10 => opt (aLoad (σ ++ [.cells 23 (AV.cells b)]) ti3 t10) fun t11 => isI .i64 t11 fun t11_1 => opt (aFieldAddr tabS ti23.td (.ptr (List.length σ) 0) 2) fun t12 => opt (aLoad (σ ++ [.cells 23 (AV.cells b)]) ti3 t12) fun t13 => isI .i64 t13 fun t13_1 => opt (aFieldAddr tabS ti23.td (.ptr (List.length σ) 0) 3) fun t14 => opt (aLoad (σ ++ [.cells 23 (AV.cells b)]) ti3 t14) fun t15 => isI .i64 t15 fun t15_1 => SCalls (cx w0) stat_Bar.id [(.pv (.int .i64 t9_1)), (.pv (.int .i64 t11_1)), (.pv (.int .i64 t13_1)), (.pv (.int .i64 t15_1))] (σ ++ [.cells 23 (AV.cells b)]) fun r σ' => isTup r fun vs => opt ((vs)[0]?) fun t17 => isI .i64 t17 fun t17_1 => isTup r fun vs_1 => opt ((vs_1)[1]?) fun t18 => isI .i64 t18 fun t18_1 => opt (aFieldAddr tabS ti23.td (.ptr (List.length σ) 0) 0) fun t20 => opt (aLoad σ' ti3 t20) fun t21 => isI .i64 t21 fun t21_1 => opt (aFieldAddr tabS ti23.td (.ptr (List.length σ) 0) 1) fun t22 => opt (aLoad σ' ti3 t22) fun t23 => isI .i64 t23 fun t23_1 => opt (aFieldAddr tabS ti23.td (.ptr (List.length σ) 0) 2) fun t24 => opt (aLoad σ' ti3 t24) fun t25 => isI .i64 t25 fun t25_1 => opt (aFieldAddr tabS ti23.td (.ptr (List.length σ) 0) 3) fun t26 => opt (aLoad σ' ti3 t26) fun t27 => isI .i64 t27 fun t27_1 => SCalls (cx w0) selvageref16_Bar.id [(.pv (.int .i64 t21_1)), (.pv (.int .i64 t23_1)), (.pv (.int .i64 t25_1)), (.pv (.int .i64 t27_1))] σ' fun r_1 σ'_1 => isTup r_1 fun vs_2 => opt ((vs_2)[0]?) fun t29 => isI .i64 t29 fun t29_1 => isTup r_1 fun vs_3 => opt ((vs_3)[1]?) fun t30 => isI .i64 t30 fun t30_1 => condB ((t17_1 : Int) == t29_1) (condB ((t18_1 : Int) == t30_1) (SCalls (cx w0) selvagelaw16_works.id [] σ'_1 fun r_2 σ'_2 => isB r_2 fun t40 => FinK (cx w0) n (.pv (.bool t40)) σ'_2 R) (FinK (cx w0) n (.pv (.bool false)) σ'_1 R)) (FinK (cx w0) n (.pv (.bool false)) σ'_1 R)))) := by kernel_rfl
theorem selvagelaw16_StatBars.ok (w0 : Base) : FOK (cx w0) selvagelaw16_StatBars.id selvagelaw16_StatBars.fe := ⟨Tryd.func3, by kernel_rfl, by kernel_rfl⟩
theorem selvagelaw16_StatBars.calls {w0 : Base} {R : AV → Store → Prop} {σ : Store} {b : AV} (h : selvagelaw16_StatBars.b0 (selvagelaw16_StatBars.X w0 (List.length σ)) w0 (List.length σ) R σ b) : SCalls (cx w0) selvagelaw16_StatBars.id [b] σ R :=
  xr_enter (cxOK w0) (x := selvagelaw16_StatBars.fe) (S := selvagelaw16_StatBars.cuts) (selvagelaw16_StatBars.ok w0) (by kernel_rfl) h
end Go.Sv
