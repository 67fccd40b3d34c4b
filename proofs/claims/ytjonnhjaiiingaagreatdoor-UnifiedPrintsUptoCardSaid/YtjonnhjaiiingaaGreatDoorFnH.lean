/- What the code of Go functions comes to over abstract stores, piece by piece; each equation by the kernel. Printed by a program of this session. -/
import Derived.Test.YtjonnhjaiiingaaGreatDoorSvT
import Derived.KernelRfl
set_option linter.unusedVariables false
set_option maxRecDepth 100000
namespace Go.Sv
open Go Go.Proofs
/-! ### selvage/selvageref10.old -/
def selvageref10_old.lvs : List (List Nat) := [[0], [0], [1], [1], [2]]
def selvageref10_old.lv : Nat → List Nat := lvOf selvageref10_old.lvs
noncomputable def selvageref10_old.code : Code := bodyOf Tryz.f73
noncomputable def selvageref10_old.fe : FE := ⟨Tryz.f73, selvageref10_old.code, selvageref10_old.lv⟩
def selvageref10_old.cuts : List Nat := [4]
abbrev selvageref10_old.X (w0 : Base) (n : Nat) : XT := xr (cx w0) 11 selvageref10_old.lv n
def selvageref10_old.n4 (X : XT) (w0 : Base) (n : Nat) (R : AV → Store → Prop) (σ : Store) (t2 : Bool) : Prop :=
  X (cAt selvageref10_old.code 4) 4 [(2, (.pv (.bool t2)))] σ (finQ (cx w0) Tryz.f73 n R)
def selvageref10_old.b4 (X : XT) (w0 : Base) (n : Nat) (R : AV → Store → Prop) (σ : Store) (t2 : Bool) : Prop :=
  pcodeX (cx w0) 11 selvageref10_old.lv n selvageref10_old.cuts X (cAt selvageref10_old.code 4) 4 [(2, (.pv (.bool t2)))] σ (finQ (cx w0) Tryz.f73 n R)
def selvageref10_old.b0 (X : XT) (w0 : Base) (n : Nat) (R : AV → Store → Prop) (σ : Store) (r : AV) : Prop :=
  pcodeX (cx w0) 11 selvageref10_old.lv n selvageref10_old.cuts X selvageref10_old.code 0 (argsE 0 [r]) σ (finQ (cx w0) Tryz.f73 n R)
theorem selvageref10_old.b4_eq (X : XT) (w0 : Base) (n : Nat) (R : AV → Store → Prop) (σ : Store) (t2 : Bool) : selvageref10_old.b4 X w0 n R σ t2 = (
  FinK (cx w0) n (.pv (.bool t2)) σ R) := by kernel_rfl
theorem selvageref10_old.n4_in {w0 : Base} {n : Nat} {R : AV → Store → Prop} {σ : Store} {t2 : Bool} (h : selvageref10_old.b4 (selvageref10_old.X w0 n) w0 n R σ t2) : selvageref10_old.n4 (selvageref10_old.X w0 n) w0 n R σ t2 := xr_in (S := selvageref10_old.cuts) (by kernel_rfl) h
theorem selvageref10_old.b0_eq (X : XT) (w0 : Base) (n : Nat) (R : AV → Store → Prop) (σ : Store) (r : AV) : selvageref10_old.b0 X w0 n R σ r = (
  ((AV.cells r).all AV.one = true ∧ (opt (aFieldAddr tabS ti65.td (.ptr (List.length σ) 0) 0) fun t3 => opt (aLoad (σ ++ [.cells 65 (AV.cells r)]) ti3 t3) fun t4 => isI .i64 t4 fun t4_1 => condB ((t4_1 : Int) == 1) (selvageref10_old.n4 X w0 n R (σ ++ [.cells 65 (AV.cells r)]) true) (opt (aFieldAddr tabS ti65.td (.ptr (List.length σ) 0) 0) fun t7 => opt (aLoad (σ ++ [.cells 65 (AV.cells r)]) ti3 t7) fun t8 => isI .i64 t8 fun t8_1 => selvageref10_old.n4 X w0 n R (σ ++ [.cells 65 (AV.cells r)]) ((t8_1 : Int) == 2))))) := by kernel_rfl
theorem selvageref10_old.ok (w0 : Base) : FOK (cx w0) selvageref10_old.id selvageref10_old.fe := ⟨Tryz.func73, by kernel_rfl, by kernel_rfl⟩
theorem selvageref10_old.calls {w0 : Base} {R : AV → Store → Prop} {σ : Store} {r : AV} (h : selvageref10_old.b0 (selvageref10_old.X w0 (List.length σ)) w0 (List.length σ) R σ r) : SCalls (cx w0) selvageref10_old.id [r] σ R :=
  xr_enter (cxOK w0) (x := selvageref10_old.fe) (S := selvageref10_old.cuts) (selvageref10_old.ok w0) (by kernel_rfl) h
/-! ### selvage/selvageref10.fresh -/
def selvageref10_fresh.lvs : List (List Nat) := [[0], [0], [1], [1], [2]]
def selvageref10_fresh.lv : Nat → List Nat := lvOf selvageref10_fresh.lvs
noncomputable def selvageref10_fresh.code : Code := bodyOf Tryz.f74
noncomputable def selvageref10_fresh.fe : FE := ⟨Tryz.f74, selvageref10_fresh.code, selvageref10_fresh.lv⟩
def selvageref10_fresh.cuts : List Nat := [4]
abbrev selvageref10_fresh.X (w0 : Base) (n : Nat) : XT := xr (cx w0) 11 selvageref10_fresh.lv n
def selvageref10_fresh.n4 (X : XT) (w0 : Base) (n : Nat) (R : AV → Store → Prop) (σ : Store) (t2 : Bool) : Prop :=
  X (cAt selvageref10_fresh.code 4) 4 [(2, (.pv (.bool t2)))] σ (finQ (cx w0) Tryz.f74 n R)
def selvageref10_fresh.b4 (X : XT) (w0 : Base) (n : Nat) (R : AV → Store → Prop) (σ : Store) (t2 : Bool) : Prop :=
  pcodeX (cx w0) 11 selvageref10_fresh.lv n selvageref10_fresh.cuts X (cAt selvageref10_fresh.code 4) 4 [(2, (.pv (.bool t2)))] σ (finQ (cx w0) Tryz.f74 n R)
def selvageref10_fresh.b0 (X : XT) (w0 : Base) (n : Nat) (R : AV → Store → Prop) (σ : Store) (r : AV) : Prop :=
  pcodeX (cx w0) 11 selvageref10_fresh.lv n selvageref10_fresh.cuts X selvageref10_fresh.code 0 (argsE 0 [r]) σ (finQ (cx w0) Tryz.f74 n R)
theorem selvageref10_fresh.b4_eq (X : XT) (w0 : Base) (n : Nat) (R : AV → Store → Prop) (σ : Store) (t2 : Bool) : selvageref10_fresh.b4 X w0 n R σ t2 = (
  FinK (cx w0) n (.pv (.bool t2)) σ R) := by kernel_rfl
theorem selvageref10_fresh.n4_in {w0 : Base} {n : Nat} {R : AV → Store → Prop} {σ : Store} {t2 : Bool} (h : selvageref10_fresh.b4 (selvageref10_fresh.X w0 n) w0 n R σ t2) : selvageref10_fresh.n4 (selvageref10_fresh.X w0 n) w0 n R σ t2 := xr_in (S := selvageref10_fresh.cuts) (by kernel_rfl) h
theorem selvageref10_fresh.b0_eq (X : XT) (w0 : Base) (n : Nat) (R : AV → Store → Prop) (σ : Store) (r : AV) : selvageref10_fresh.b0 X w0 n R σ r = (
  ((AV.cells r).all AV.one = true ∧ (opt (aFieldAddr tabS ti65.td (.ptr (List.length σ) 0) 0) fun t3 => opt (aLoad (σ ++ [.cells 65 (AV.cells r)]) ti3 t3) fun t4 => isI .i64 t4 fun t4_1 => condB ((t4_1 : Int) == 1) (selvageref10_fresh.n4 X w0 n R (σ ++ [.cells 65 (AV.cells r)]) true) (opt (aFieldAddr tabS ti65.td (.ptr (List.length σ) 0) 0) fun t7 => opt (aLoad (σ ++ [.cells 65 (AV.cells r)]) ti3 t7) fun t8 => isI .i64 t8 fun t8_1 => selvageref10_fresh.n4 X w0 n R (σ ++ [.cells 65 (AV.cells r)]) ((t8_1 : Int) == 3))))) := by kernel_rfl
theorem selvageref10_fresh.ok (w0 : Base) : FOK (cx w0) selvageref10_fresh.id selvageref10_fresh.fe := ⟨Tryz.func74, by kernel_rfl, by kernel_rfl⟩
theorem selvageref10_fresh.calls {w0 : Base} {R : AV → Store → Prop} {σ : Store} {r : AV} (h : selvageref10_fresh.b0 (selvageref10_fresh.X w0 (List.length σ)) w0 (List.length σ) R σ r) : SCalls (cx w0) selvageref10_fresh.id [r] σ R :=
  xr_enter (cxOK w0) (x := selvageref10_fresh.fe) (S := selvageref10_fresh.cuts) (selvageref10_fresh.ok w0) (by kernel_rfl) h
/-! ### selvage/selvageref10.line -/
def selvageref10_line.lvs : List (List Nat) := [[0], [0], [0], [0], [0], [0, 3], [0, 3], [0, 3], [0, 3], [0, 3], [0, 3, 8], [0, 3], [0], [0, 3], [0, 3], [0, 3], [0, 3], [0, 3, 14], [], [], [2], [0, 3], [0, 3], [0], [0], [2]]
def selvageref10_line.lv : Nat → List Nat := lvOf selvageref10_line.lvs
noncomputable def selvageref10_line.code : Code := bodyOf Tryz.f75
noncomputable def selvageref10_line.fe : FE := ⟨Tryz.f75, selvageref10_line.code, selvageref10_line.lv⟩
def selvageref10_line.cuts : List Nat := [7, 23]
abbrev selvageref10_line.X (w0 : Base) (n : Nat) : XT := xr (cx w0) 17 selvageref10_line.lv n
def selvageref10_line.q3 (X : XT) (w0 : Base) (n : Nat) (R : AV → Store → Prop) : Exit → Env → Store → Prop := thenQ (fun env σ => X (cAt selvageref10_line.code 23) 23 (prune (selvageref10_line.lv 23) env) σ (finQ (cx w0) Tryz.f75 n R)) (finQ (cx w0) Tryz.f75 n R)
def selvageref10_line.q6 (X : XT) (w0 : Base) (n : Nat) (R : AV → Store → Prop) : Exit → Env → Store → Prop := blockQ 0 (selvageref10_line.q3 X w0 n R)
def selvageref10_line.q7 (X : XT) (w0 : Base) (n : Nat) (R : AV → Store → Prop) : Exit → Env → Store → Prop := thenQ (fun env σ => X (cAt selvageref10_line.code 6) 6 (prune (selvageref10_line.lv 6) env) σ (selvageref10_line.q6 X w0 n R)) (selvageref10_line.q6 X w0 n R)
def selvageref10_line.n6 (X : XT) (w0 : Base) (n : Nat) (R : AV → Store → Prop) (σ : Store) (s : List UInt8) (i : Int) : Prop :=
  X (cAt selvageref10_line.code 6) 6 [(0, (.pv (.str s))), (3, (.pv (.int .i64 i)))] σ (selvageref10_line.q6 X w0 n R)
def selvageref10_line.n7 (X : XT) (w0 : Base) (n : Nat) (R : AV → Store → Prop) (σ : Store) (s : List UInt8) (i : Int) : Prop :=
  X (cAt selvageref10_line.code 7) 7 [(0, (.pv (.str s))), (3, (.pv (.int .i64 i)))] σ (selvageref10_line.q7 X w0 n R)
def selvageref10_line.b7 (X : XT) (w0 : Base) (n : Nat) (R : AV → Store → Prop) (σ : Store) (s : List UInt8) (i : Int) : Prop :=
  pcodeX (cx w0) 17 selvageref10_line.lv n selvageref10_line.cuts X (cAt selvageref10_line.code 7) 7 [(0, (.pv (.str s))), (3, (.pv (.int .i64 i)))] σ (selvageref10_line.q7 X w0 n R)
def selvageref10_line.n23 (X : XT) (w0 : Base) (n : Nat) (R : AV → Store → Prop) (σ : Store) (s : List UInt8) : Prop :=
  X (cAt selvageref10_line.code 23) 23 [(0, (.pv (.str s)))] σ (finQ (cx w0) Tryz.f75 n R)
def selvageref10_line.b23 (X : XT) (w0 : Base) (n : Nat) (R : AV → Store → Prop) (σ : Store) (s : List UInt8) : Prop :=
  pcodeX (cx w0) 17 selvageref10_line.lv n selvageref10_line.cuts X (cAt selvageref10_line.code 23) 23 [(0, (.pv (.str s)))] σ (finQ (cx w0) Tryz.f75 n R)
def selvageref10_line.b0 (X : XT) (w0 : Base) (n : Nat) (R : AV → Store → Prop) (σ : Store) (s : List UInt8) : Prop :=
  pcodeX (cx w0) 17 selvageref10_line.lv n selvageref10_line.cuts X selvageref10_line.code 0 (argsE 0 [(.pv (.str s))]) σ (finQ (cx w0) Tryz.f75 n R)
theorem selvageref10_line.n6_in {w0 : Base} {n : Nat} {R : AV → Store → Prop} {σ : Store} {s : List UInt8} {i : Int} (h : selvageref10_line.b7 (selvageref10_line.X w0 n) w0 n R σ s i) : selvageref10_line.n6 (selvageref10_line.X w0 n) w0 n R σ s i := xr_round (cxOK w0) (S := selvageref10_line.cuts) (by kernel_rfl : cAt selvageref10_line.code 6 = .loop (cAt selvageref10_line.code 7)) h
theorem selvageref10_line.n6_weak {w0 : Base} {n : Nat} {R : AV → Store → Prop} {σ τ : Store} {s : List UInt8} {i : Int} {s' : List UInt8} {i' : Int} (e : EWeak (cx w0) n [(0, (.pv (.str s))), (3, (.pv (.int .i64 i)))] σ [(0, (.pv (.str s'))), (3, (.pv (.int .i64 i')))] τ) (h : selvageref10_line.n6 (selvageref10_line.X w0 n) w0 n R τ s' i') : selvageref10_line.n6 (selvageref10_line.X w0 n) w0 n R σ s i := xr_weak (L := selvageref10_line.lv) (k := 6) (by kernel_rfl : cAt selvageref10_line.code 6 = .loop (cAt selvageref10_line.code 7)) e h
theorem selvageref10_line.b7_eq (X : XT) (w0 : Base) (n : Nat) (R : AV → Store → Prop) (σ : Store) (s : List UInt8) (i : Int) : selvageref10_line.b7 X w0 n R σ s i = (
  condB (decide ((i : Int) < (IntKind.wrap .i64 ((List.length (s : List UInt8) : Int) - 1)))) (opt (aIndex tabS ti9.td (.pv (.str s)) i) fun t13 => isI .u8 t13 fun t13_1 => condB ((t13_1 : Int) == 10) (FinK (cx w0) n (.pv (.bool false)) σ R) (selvageref10_line.n6 X w0 n R σ s (IntKind.wrap .i64 (i + 1)))) (selvageref10_line.n23 X w0 n R σ s)) := by kernel_rfl
theorem selvageref10_line.n7_in {w0 : Base} {n : Nat} {R : AV → Store → Prop} {σ : Store} {s : List UInt8} {i : Int} (h : selvageref10_line.b7 (selvageref10_line.X w0 n) w0 n R σ s i) : selvageref10_line.n7 (selvageref10_line.X w0 n) w0 n R σ s i := xr_in (S := selvageref10_line.cuts) (by kernel_rfl) h
theorem selvageref10_line.b23_eq (X : XT) (w0 : Base) (n : Nat) (R : AV → Store → Prop) (σ : Store) (s : List UInt8) : selvageref10_line.b23 X w0 n R σ s = (
  FinK (cx w0) n (.pv (.bool (!((s : List UInt8) == [])))) σ R) := by kernel_rfl
theorem selvageref10_line.n23_in {w0 : Base} {n : Nat} {R : AV → Store → Prop} {σ : Store} {s : List UInt8} (h : selvageref10_line.b23 (selvageref10_line.X w0 n) w0 n R σ s) : selvageref10_line.n23 (selvageref10_line.X w0 n) w0 n R σ s := xr_in (S := selvageref10_line.cuts) (by kernel_rfl) h
theorem selvageref10_line.b0_eq (X : XT) (w0 : Base) (n : Nat) (R : AV → Store → Prop) (σ : Store) (s : List UInt8) : selvageref10_line.b0 X w0 n R σ s = (
  selvageref10_line.n6 X w0 n R σ s 0) := by kernel_rfl
theorem selvageref10_line.ok (w0 : Base) : FOK (cx w0) selvageref10_line.id selvageref10_line.fe := ⟨Tryz.func75, by kernel_rfl, by kernel_rfl⟩
theorem selvageref10_line.calls {w0 : Base} {R : AV → Store → Prop} {σ : Store} {s : List UInt8} (h : selvageref10_line.b0 (selvageref10_line.X w0 (List.length σ)) w0 (List.length σ) R σ s) : SCalls (cx w0) selvageref10_line.id [(.pv (.str s))] σ R :=
  xr_enter (cxOK w0) (x := selvageref10_line.fe) (S := selvageref10_line.cuts) (selvageref10_line.ok w0) (by kernel_rfl) h
/-! ### selvage/selvageref01.Whole -/
def selvageref01_Whole.lvs : List (List Nat) := [[0], [0], [0], [0], [2]]
def selvageref01_Whole.lv : Nat → List Nat := lvOf selvageref01_Whole.lvs
noncomputable def selvageref01_Whole.code : Code := bodyOf Tryz.f50
noncomputable def selvageref01_Whole.fe : FE := ⟨Tryz.f50, selvageref01_Whole.code, selvageref01_Whole.lv⟩
def selvageref01_Whole.cuts : List Nat := [4]
abbrev selvageref01_Whole.X (w0 : Base) (n : Nat) : XT := xr (cx w0) 14 selvageref01_Whole.lv n
def selvageref01_Whole.n4 (X : XT) (w0 : Base) (n : Nat) (R : AV → Store → Prop) (σ : Store) (t2 : Bool) : Prop :=
  X (cAt selvageref01_Whole.code 4) 4 [(2, (.pv (.bool t2)))] σ (finQ (cx w0) Tryz.f50 n R)
def selvageref01_Whole.b4 (X : XT) (w0 : Base) (n : Nat) (R : AV → Store → Prop) (σ : Store) (t2 : Bool) : Prop :=
  pcodeX (cx w0) 14 selvageref01_Whole.lv n selvageref01_Whole.cuts X (cAt selvageref01_Whole.code 4) 4 [(2, (.pv (.bool t2)))] σ (finQ (cx w0) Tryz.f50 n R)
def selvageref01_Whole.b0 (X : XT) (w0 : Base) (n : Nat) (R : AV → Store → Prop) (σ : Store) (line : List UInt8) : Prop :=
  pcodeX (cx w0) 14 selvageref01_Whole.lv n selvageref01_Whole.cuts X selvageref01_Whole.code 0 (argsE 0 [(.pv (.str line))]) σ (finQ (cx w0) Tryz.f50 n R)
theorem selvageref01_Whole.b4_eq (X : XT) (w0 : Base) (n : Nat) (R : AV → Store → Prop) (σ : Store) (t2 : Bool) : selvageref01_Whole.b4 X w0 n R σ t2 = (
  FinK (cx w0) n (.pv (.bool t2)) σ R) := by kernel_rfl
theorem selvageref01_Whole.n4_in {w0 : Base} {n : Nat} {R : AV → Store → Prop} {σ : Store} {t2 : Bool} (h : selvageref01_Whole.b4 (selvageref01_Whole.X w0 n) w0 n R σ t2) : selvageref01_Whole.n4 (selvageref01_Whole.X w0 n) w0 n R σ t2 := xr_in (S := selvageref01_Whole.cuts) (by kernel_rfl) h
theorem selvageref01_Whole.b0_eq (X : XT) (w0 : Base) (n : Nat) (R : AV → Store → Prop) (σ : Store) (line : List UInt8) : selvageref01_Whole.b0 X w0 n R σ line = (
  condB (decide (((List.length (line : List UInt8) : Int) : Int) > 0)) (opt (aIndex tabS ti9.td (.pv (.str line)) (IntKind.wrap .i64 ((List.length (line : List UInt8) : Int) - 1))) fun t11 => isI .u8 t11 fun t11_1 => selvageref01_Whole.n4 X w0 n R σ ((t11_1 : Int) == 10)) (selvageref01_Whole.n4 X w0 n R σ false)) := by kernel_rfl
theorem selvageref01_Whole.ok (w0 : Base) : FOK (cx w0) selvageref01_Whole.id selvageref01_Whole.fe := ⟨Tryz.func50, by kernel_rfl, by kernel_rfl⟩
theorem selvageref01_Whole.calls {w0 : Base} {R : AV → Store → Prop} {σ : Store} {line : List UInt8} (h : selvageref01_Whole.b0 (selvageref01_Whole.X w0 (List.length σ)) w0 (List.length σ) R σ line) : SCalls (cx w0) selvageref01_Whole.id [(.pv (.str line))] σ R :=
  xr_enter (cxOK w0) (x := selvageref01_Whole.fe) (S := selvageref01_Whole.cuts) (selvageref01_Whole.ok w0) (by kernel_rfl) h
/-! ### selvage/selvageref10.Counts -/
def selvageref10_Counts.lvs : List (List Nat) := [[0], [0], [0], [0], [0, 4, 5], [0, 4, 5], [0, 4, 5], [0, 4, 5, 6], [0, 4, 5, 6], [0, 4, 5, 6], [0, 4, 5, 6], [0, 4, 5, 6], [0, 4, 5, 6, 10], [0, 4, 5, 6], [4, 5], [0, 4, 5, 6], [0, 4, 5, 6], [0, 4, 5, 6], [0, 4, 5, 6], [0, 4, 5, 6], [0, 4, 5, 6, 17], [0, 4, 5, 6], [0, 4, 5, 6], [0, 4, 5, 6], [0, 4, 5, 6], [0, 4, 5, 6, 24], [0, 4, 5, 6], [0, 4, 5, 6], [0, 4, 5, 6], [4, 5], [4, 5], [2, 3]]
def selvageref10_Counts.lv : Nat → List Nat := lvOf selvageref10_Counts.lvs
noncomputable def selvageref10_Counts.code : Code := bodyOf Tryz.f46
noncomputable def selvageref10_Counts.fe : FE := ⟨Tryz.f46, selvageref10_Counts.code, selvageref10_Counts.lv⟩
def selvageref10_Counts.cuts : List Nat := [9, 23, 28, 29]
abbrev selvageref10_Counts.X (w0 : Base) (n : Nat) : XT := xr (cx w0) 29 selvageref10_Counts.lv n
def selvageref10_Counts.q5 (X : XT) (w0 : Base) (n : Nat) (R : AV → Store → Prop) : Exit → Env → Store → Prop := thenQ (fun env σ => X (cAt selvageref10_Counts.code 29) 29 (prune (selvageref10_Counts.lv 29) env) σ (finQ (cx w0) Tryz.f46 n R)) (finQ (cx w0) Tryz.f46 n R)
def selvageref10_Counts.q8 (X : XT) (w0 : Base) (n : Nat) (R : AV → Store → Prop) : Exit → Env → Store → Prop := blockQ 0 (selvageref10_Counts.q5 X w0 n R)
def selvageref10_Counts.q9 (X : XT) (w0 : Base) (n : Nat) (R : AV → Store → Prop) : Exit → Env → Store → Prop := thenQ (fun env σ => X (cAt selvageref10_Counts.code 8) 8 (prune (selvageref10_Counts.lv 8) env) σ (selvageref10_Counts.q8 X w0 n R)) (selvageref10_Counts.q8 X w0 n R)
def selvageref10_Counts.q16 (X : XT) (w0 : Base) (n : Nat) (R : AV → Store → Prop) : Exit → Env → Store → Prop := thenQ (fun env σ => X (cAt selvageref10_Counts.code 28) 28 (prune (selvageref10_Counts.lv 28) env) σ (selvageref10_Counts.q9 X w0 n R)) (selvageref10_Counts.q9 X w0 n R)
def selvageref10_Counts.q17 (X : XT) (w0 : Base) (n : Nat) (R : AV → Store → Prop) : Exit → Env → Store → Prop := blockQ 1 (selvageref10_Counts.q16 X w0 n R)
def selvageref10_Counts.n8 (X : XT) (w0 : Base) (n : Nat) (R : AV → Store → Prop) (σ : Store) (l_ : AV) (n_ : Int) (m : Int) (i : Int) : Prop :=
  X (cAt selvageref10_Counts.code 8) 8 [(0, l_), (4, (.pv (.int .i64 n_))), (5, (.pv (.int .i64 m))), (6, (.pv (.int .i64 i)))] σ (selvageref10_Counts.q8 X w0 n R)
def selvageref10_Counts.n9 (X : XT) (w0 : Base) (n : Nat) (R : AV → Store → Prop) (σ : Store) (l_ : AV) (n_ : Int) (m : Int) (i : Int) : Prop :=
  X (cAt selvageref10_Counts.code 9) 9 [(0, l_), (4, (.pv (.int .i64 n_))), (5, (.pv (.int .i64 m))), (6, (.pv (.int .i64 i)))] σ (selvageref10_Counts.q9 X w0 n R)
def selvageref10_Counts.b9 (X : XT) (w0 : Base) (n : Nat) (R : AV → Store → Prop) (σ : Store) (l_ : AV) (n_ : Int) (m : Int) (i : Int) : Prop :=
  pcodeX (cx w0) 29 selvageref10_Counts.lv n selvageref10_Counts.cuts X (cAt selvageref10_Counts.code 9) 9 [(0, l_), (4, (.pv (.int .i64 n_))), (5, (.pv (.int .i64 m))), (6, (.pv (.int .i64 i)))] σ (selvageref10_Counts.q9 X w0 n R)
def selvageref10_Counts.n23 (X : XT) (w0 : Base) (n : Nat) (R : AV → Store → Prop) (σ : Store) (l_ : AV) (n_ : Int) (m : Int) (i : Int) : Prop :=
  X (cAt selvageref10_Counts.code 23) 23 [(0, l_), (4, (.pv (.int .i64 n_))), (5, (.pv (.int .i64 m))), (6, (.pv (.int .i64 i)))] σ (selvageref10_Counts.q17 X w0 n R)
def selvageref10_Counts.b23 (X : XT) (w0 : Base) (n : Nat) (R : AV → Store → Prop) (σ : Store) (l_ : AV) (n_ : Int) (m : Int) (i : Int) : Prop :=
  pcodeX (cx w0) 29 selvageref10_Counts.lv n selvageref10_Counts.cuts X (cAt selvageref10_Counts.code 23) 23 [(0, l_), (4, (.pv (.int .i64 n_))), (5, (.pv (.int .i64 m))), (6, (.pv (.int .i64 i)))] σ (selvageref10_Counts.q17 X w0 n R)
def selvageref10_Counts.n28 (X : XT) (w0 : Base) (n : Nat) (R : AV → Store → Prop) (σ : Store) (l_ : AV) (n_ : Int) (m : Int) (i : Int) : Prop :=
  X (cAt selvageref10_Counts.code 28) 28 [(0, l_), (4, (.pv (.int .i64 n_))), (5, (.pv (.int .i64 m))), (6, (.pv (.int .i64 i)))] σ (selvageref10_Counts.q9 X w0 n R)
def selvageref10_Counts.b28 (X : XT) (w0 : Base) (n : Nat) (R : AV → Store → Prop) (σ : Store) (l_ : AV) (n_ : Int) (m : Int) (i : Int) : Prop :=
  pcodeX (cx w0) 29 selvageref10_Counts.lv n selvageref10_Counts.cuts X (cAt selvageref10_Counts.code 28) 28 [(0, l_), (4, (.pv (.int .i64 n_))), (5, (.pv (.int .i64 m))), (6, (.pv (.int .i64 i)))] σ (selvageref10_Counts.q9 X w0 n R)
def selvageref10_Counts.n29 (X : XT) (w0 : Base) (n : Nat) (R : AV → Store → Prop) (σ : Store) (n_ : Int) (m : Int) : Prop :=
  X (cAt selvageref10_Counts.code 29) 29 [(4, (.pv (.int .i64 n_))), (5, (.pv (.int .i64 m)))] σ (finQ (cx w0) Tryz.f46 n R)
def selvageref10_Counts.b29 (X : XT) (w0 : Base) (n : Nat) (R : AV → Store → Prop) (σ : Store) (n_ : Int) (m : Int) : Prop :=
  pcodeX (cx w0) 29 selvageref10_Counts.lv n selvageref10_Counts.cuts X (cAt selvageref10_Counts.code 29) 29 [(4, (.pv (.int .i64 n_))), (5, (.pv (.int .i64 m)))] σ (finQ (cx w0) Tryz.f46 n R)
def selvageref10_Counts.b0 (X : XT) (w0 : Base) (n : Nat) (R : AV → Store → Prop) (σ : Store) (l_ : AV) : Prop :=
  pcodeX (cx w0) 29 selvageref10_Counts.lv n selvageref10_Counts.cuts X selvageref10_Counts.code 0 (argsE 0 [l_]) σ (finQ (cx w0) Tryz.f46 n R)
theorem selvageref10_Counts.n8_in {w0 : Base} {n : Nat} {R : AV → Store → Prop} {σ : Store} {l_ : AV} {n_ : Int} {m : Int} {i : Int} (h : selvageref10_Counts.b9 (selvageref10_Counts.X w0 n) w0 n R σ l_ n_ m i) : selvageref10_Counts.n8 (selvageref10_Counts.X w0 n) w0 n R σ l_ n_ m i := xr_round (cxOK w0) (S := selvageref10_Counts.cuts) (by kernel_rfl : cAt selvageref10_Counts.code 8 = .loop (cAt selvageref10_Counts.code 9)) h
theorem selvageref10_Counts.n8_weak {w0 : Base} {n : Nat} {R : AV → Store → Prop} {σ τ : Store} {l_ : AV} {n_ : Int} {m : Int} {i : Int} {l_' : AV} {n_' : Int} {m' : Int} {i' : Int} (e : EWeak (cx w0) n [(0, l_), (4, (.pv (.int .i64 n_))), (5, (.pv (.int .i64 m))), (6, (.pv (.int .i64 i)))] σ [(0, l_'), (4, (.pv (.int .i64 n_'))), (5, (.pv (.int .i64 m'))), (6, (.pv (.int .i64 i')))] τ) (h : selvageref10_Counts.n8 (selvageref10_Counts.X w0 n) w0 n R τ l_' n_' m' i') : selvageref10_Counts.n8 (selvageref10_Counts.X w0 n) w0 n R σ l_ n_ m i := xr_weak (L := selvageref10_Counts.lv) (k := 8) (by kernel_rfl : cAt selvageref10_Counts.code 8 = .loop (cAt selvageref10_Counts.code 9)) e h
theorem selvageref10_Counts.b9_eq (X : XT) (w0 : Base) (n : Nat) (R : AV → Store → Prop) (σ : Store) (l_ : AV) (n_ : Int) (m : Int) (i : Int) : selvageref10_Counts.b9 X w0 n R σ l_ n_ m i = (
  opt (aLen ti35.td l_) fun t9 => isI .i64 t9 fun t9_1 => condB (decide ((i : Int) < t9_1)) (opt (aIndexAddr σ tabS ti35.td l_ i) fun t15 => opt (aLoad σ ti65 t15) fun t16 => SCalls (cx w0) selvageref10_old.id [t16] σ fun r σ' => isB r fun t17 => condB t17 (selvageref10_Counts.n23 X w0 n R σ' l_ (IntKind.wrap .i64 (n_ + 1)) m i) (selvageref10_Counts.n23 X w0 n R σ' l_ n_ m i)) (selvageref10_Counts.n29 X w0 n R σ n_ m)) := by kernel_rfl
theorem selvageref10_Counts.n9_in {w0 : Base} {n : Nat} {R : AV → Store → Prop} {σ : Store} {l_ : AV} {n_ : Int} {m : Int} {i : Int} (h : selvageref10_Counts.b9 (selvageref10_Counts.X w0 n) w0 n R σ l_ n_ m i) : selvageref10_Counts.n9 (selvageref10_Counts.X w0 n) w0 n R σ l_ n_ m i := xr_in (S := selvageref10_Counts.cuts) (by kernel_rfl) h
theorem selvageref10_Counts.b23_eq (X : XT) (w0 : Base) (n : Nat) (R : AV → Store → Prop) (σ : Store) (l_ : AV) (n_ : Int) (m : Int) (i : Int) : selvageref10_Counts.b23 X w0 n R σ l_ n_ m i = (
  opt (aIndexAddr σ tabS ti35.td l_ i) fun t22 => opt (aLoad σ ti65 t22) fun t23 => SCalls (cx w0) selvageref10_fresh.id [t23] σ fun r σ' => isB r fun t24 => condB t24 (selvageref10_Counts.n28 X w0 n R σ' l_ n_ (IntKind.wrap .i64 (m + 1)) i) (selvageref10_Counts.n28 X w0 n R σ' l_ n_ m i)) := by kernel_rfl
theorem selvageref10_Counts.n23_in {w0 : Base} {n : Nat} {R : AV → Store → Prop} {σ : Store} {l_ : AV} {n_ : Int} {m : Int} {i : Int} (h : selvageref10_Counts.b23 (selvageref10_Counts.X w0 n) w0 n R σ l_ n_ m i) : selvageref10_Counts.n23 (selvageref10_Counts.X w0 n) w0 n R σ l_ n_ m i := xr_in (S := selvageref10_Counts.cuts) (by kernel_rfl) h
theorem selvageref10_Counts.b28_eq (X : XT) (w0 : Base) (n : Nat) (R : AV → Store → Prop) (σ : Store) (l_ : AV) (n_ : Int) (m : Int) (i : Int) : selvageref10_Counts.b28 X w0 n R σ l_ n_ m i = (
  selvageref10_Counts.n8 X w0 n R σ l_ n_ m (IntKind.wrap .i64 (i + 1))) := by kernel_rfl
theorem selvageref10_Counts.n28_in {w0 : Base} {n : Nat} {R : AV → Store → Prop} {σ : Store} {l_ : AV} {n_ : Int} {m : Int} {i : Int} (h : selvageref10_Counts.b28 (selvageref10_Counts.X w0 n) w0 n R σ l_ n_ m i) : selvageref10_Counts.n28 (selvageref10_Counts.X w0 n) w0 n R σ l_ n_ m i := xr_in (S := selvageref10_Counts.cuts) (by kernel_rfl) h
theorem selvageref10_Counts.b29_eq (X : XT) (w0 : Base) (n : Nat) (R : AV → Store → Prop) (σ : Store) (n_ : Int) (m : Int) : selvageref10_Counts.b29 X w0 n R σ n_ m = (
  FinK (cx w0) n (.tup [(.pv (.int .i64 n_)), (.pv (.int .i64 m))]) σ R) := by kernel_rfl
theorem selvageref10_Counts.n29_in {w0 : Base} {n : Nat} {R : AV → Store → Prop} {σ : Store} {n_ : Int} {m : Int} (h : selvageref10_Counts.b29 (selvageref10_Counts.X w0 n) w0 n R σ n_ m) : selvageref10_Counts.n29 (selvageref10_Counts.X w0 n) w0 n R σ n_ m := xr_in (S := selvageref10_Counts.cuts) (by kernel_rfl) h
theorem selvageref10_Counts.b0_eq (X : XT) (w0 : Base) (n : Nat) (R : AV → Store → Prop) (σ : Store) (l_ : AV) : selvageref10_Counts.b0 X w0 n R σ l_ = (
  selvageref10_Counts.n8 X w0 n R σ l_ 0 0 0) := by kernel_rfl
theorem selvageref10_Counts.ok (w0 : Base) : FOK (cx w0) selvageref10_Counts.id selvageref10_Counts.fe := ⟨Tryz.func46, by kernel_rfl, by kernel_rfl⟩
theorem selvageref10_Counts.calls {w0 : Base} {R : AV → Store → Prop} {σ : Store} {l_ : AV} (h : selvageref10_Counts.b0 (selvageref10_Counts.X w0 (List.length σ)) w0 (List.length σ) R σ l_) : SCalls (cx w0) selvageref10_Counts.id [l_] σ R :=
  xr_enter (cxOK w0) (x := selvageref10_Counts.fe) (S := selvageref10_Counts.cuts) (selvageref10_Counts.ok w0) (by kernel_rfl) h
/-! ### selvage/selvageref10.rows -/
def selvageref10_rows.lvs : List (List Nat) := [[0], [0], [0], [0], [0, 3, 4, 5], [0, 3, 4, 5], [0, 3, 4, 5], [0, 3, 4, 5, 6], [0, 3, 4, 5, 6], [0, 3, 4, 5, 6], [0, 3, 4, 5, 6], [0, 3, 4, 5, 6], [0, 3, 4, 5, 6, 12], [0, 3, 4, 5, 6], [5], [0, 3, 4, 5, 6], [0, 3, 4, 5, 6], [0, 3, 4, 5, 6], [0, 3, 4, 5, 6], [0, 3, 4, 5, 6, 7], [0, 3, 4, 5, 6, 7], [0, 3, 4, 5, 6, 7], [0, 3, 4, 5, 6, 7, 46], [], [], [2], [0, 3, 4, 5, 6, 7], [0, 3, 4, 5, 6, 7], [0, 3, 4, 5, 6, 7], [0, 3, 4, 5, 6, 7, 8], [0, 3, 4, 5, 6, 7, 8], [0, 3, 4, 5, 6, 7, 8], [0, 3, 4, 5, 6, 7, 8], [0, 3, 4, 5, 6, 7], [0, 3, 4, 5, 6], [5], [5], [2]]
def selvageref10_rows.lv : Nat → List Nat := lvOf selvageref10_rows.lvs
noncomputable def selvageref10_rows.code : Code := bodyOf Tryz.f47
noncomputable def selvageref10_rows.fe : FE := ⟨Tryz.f47, selvageref10_rows.code, selvageref10_rows.lv⟩
def selvageref10_rows.cuts : List Nat := [9, 22, 31, 33, 34, 35]
abbrev selvageref10_rows.X (w0 : Base) (n : Nat) : XT := xr (cx w0) 74 selvageref10_rows.lv n
def selvageref10_rows.q5 (X : XT) (w0 : Base) (n : Nat) (R : AV → Store → Prop) : Exit → Env → Store → Prop := thenQ (fun env σ => X (cAt selvageref10_rows.code 35) 35 (prune (selvageref10_rows.lv 35) env) σ (finQ (cx w0) Tryz.f47 n R)) (finQ (cx w0) Tryz.f47 n R)
def selvageref10_rows.q8 (X : XT) (w0 : Base) (n : Nat) (R : AV → Store → Prop) : Exit → Env → Store → Prop := blockQ 0 (selvageref10_rows.q5 X w0 n R)
def selvageref10_rows.q9 (X : XT) (w0 : Base) (n : Nat) (R : AV → Store → Prop) : Exit → Env → Store → Prop := thenQ (fun env σ => X (cAt selvageref10_rows.code 8) 8 (prune (selvageref10_rows.lv 8) env) σ (selvageref10_rows.q8 X w0 n R)) (selvageref10_rows.q8 X w0 n R)
def selvageref10_rows.q16 (X : XT) (w0 : Base) (n : Nat) (R : AV → Store → Prop) : Exit → Env → Store → Prop := thenQ (fun env σ => X (cAt selvageref10_rows.code 34) 34 (prune (selvageref10_rows.lv 34) env) σ (selvageref10_rows.q9 X w0 n R)) (selvageref10_rows.q9 X w0 n R)
def selvageref10_rows.q17 (X : XT) (w0 : Base) (n : Nat) (R : AV → Store → Prop) : Exit → Env → Store → Prop := blockQ 1 (selvageref10_rows.q16 X w0 n R)
def selvageref10_rows.q20 (X : XT) (w0 : Base) (n : Nat) (R : AV → Store → Prop) : Exit → Env → Store → Prop := thenQ (fun env σ => pcodeX (cx w0) 74 selvageref10_rows.lv n selvageref10_rows.cuts X (cAt selvageref10_rows.code 27) 27 (prune (selvageref10_rows.lv 27) env) σ (selvageref10_rows.q17 X w0 n R)) (selvageref10_rows.q17 X w0 n R)
def selvageref10_rows.n8 (X : XT) (w0 : Base) (n : Nat) (R : AV → Store → Prop) (σ : Store) (l_ : AV) (ended : Bool) (over : Bool) (change : Bool) (i : Int) : Prop :=
  X (cAt selvageref10_rows.code 8) 8 [(0, l_), (3, (.pv (.bool ended))), (4, (.pv (.bool over))), (5, (.pv (.bool change))), (6, (.pv (.int .i64 i)))] σ (selvageref10_rows.q8 X w0 n R)
def selvageref10_rows.n9 (X : XT) (w0 : Base) (n : Nat) (R : AV → Store → Prop) (σ : Store) (l_ : AV) (ended : Bool) (over : Bool) (change : Bool) (i : Int) : Prop :=
  X (cAt selvageref10_rows.code 9) 9 [(0, l_), (3, (.pv (.bool ended))), (4, (.pv (.bool over))), (5, (.pv (.bool change))), (6, (.pv (.int .i64 i)))] σ (selvageref10_rows.q9 X w0 n R)
def selvageref10_rows.b9 (X : XT) (w0 : Base) (n : Nat) (R : AV → Store → Prop) (σ : Store) (l_ : AV) (ended : Bool) (over : Bool) (change : Bool) (i : Int) : Prop :=
  pcodeX (cx w0) 74 selvageref10_rows.lv n selvageref10_rows.cuts X (cAt selvageref10_rows.code 9) 9 [(0, l_), (3, (.pv (.bool ended))), (4, (.pv (.bool over))), (5, (.pv (.bool change))), (6, (.pv (.int .i64 i)))] σ (selvageref10_rows.q9 X w0 n R)
def selvageref10_rows.n22 (X : XT) (w0 : Base) (n : Nat) (R : AV → Store → Prop) (σ : Store) (l_ : AV) (ended : Bool) (over : Bool) (change : Bool) (i : Int) (r : AV) (t46 : Bool) : Prop :=
  X (cAt selvageref10_rows.code 22) 22 [(0, l_), (3, (.pv (.bool ended))), (4, (.pv (.bool over))), (5, (.pv (.bool change))), (6, (.pv (.int .i64 i))), (7, r), (46, (.pv (.bool t46)))] σ (selvageref10_rows.q20 X w0 n R)
def selvageref10_rows.b22 (X : XT) (w0 : Base) (n : Nat) (R : AV → Store → Prop) (σ : Store) (l_ : AV) (ended : Bool) (over : Bool) (change : Bool) (i : Int) (r : AV) (t46 : Bool) : Prop :=
  pcodeX (cx w0) 74 selvageref10_rows.lv n selvageref10_rows.cuts X (cAt selvageref10_rows.code 22) 22 [(0, l_), (3, (.pv (.bool ended))), (4, (.pv (.bool over))), (5, (.pv (.bool change))), (6, (.pv (.int .i64 i))), (7, r), (46, (.pv (.bool t46)))] σ (selvageref10_rows.q20 X w0 n R)
def selvageref10_rows.n31 (X : XT) (w0 : Base) (n : Nat) (R : AV → Store → Prop) (σ : Store) (l_ : AV) (ended : Bool) (over : Bool) (change : Bool) (i : Int) (r : AV) (part : Bool) : Prop :=
  X (cAt selvageref10_rows.code 31) 31 [(0, l_), (3, (.pv (.bool ended))), (4, (.pv (.bool over))), (5, (.pv (.bool change))), (6, (.pv (.int .i64 i))), (7, r), (8, (.pv (.bool part)))] σ (selvageref10_rows.q17 X w0 n R)
def selvageref10_rows.b31 (X : XT) (w0 : Base) (n : Nat) (R : AV → Store → Prop) (σ : Store) (l_ : AV) (ended : Bool) (over : Bool) (change : Bool) (i : Int) (r : AV) (part : Bool) : Prop :=
  pcodeX (cx w0) 74 selvageref10_rows.lv n selvageref10_rows.cuts X (cAt selvageref10_rows.code 31) 31 [(0, l_), (3, (.pv (.bool ended))), (4, (.pv (.bool over))), (5, (.pv (.bool change))), (6, (.pv (.int .i64 i))), (7, r), (8, (.pv (.bool part)))] σ (selvageref10_rows.q17 X w0 n R)
def selvageref10_rows.n33 (X : XT) (w0 : Base) (n : Nat) (R : AV → Store → Prop) (σ : Store) (l_ : AV) (ended : Bool) (over : Bool) (change : Bool) (i : Int) (r : AV) : Prop :=
  X (cAt selvageref10_rows.code 33) 33 [(0, l_), (3, (.pv (.bool ended))), (4, (.pv (.bool over))), (5, (.pv (.bool change))), (6, (.pv (.int .i64 i))), (7, r)] σ (selvageref10_rows.q17 X w0 n R)
def selvageref10_rows.b33 (X : XT) (w0 : Base) (n : Nat) (R : AV → Store → Prop) (σ : Store) (l_ : AV) (ended : Bool) (over : Bool) (change : Bool) (i : Int) (r : AV) : Prop :=
  pcodeX (cx w0) 74 selvageref10_rows.lv n selvageref10_rows.cuts X (cAt selvageref10_rows.code 33) 33 [(0, l_), (3, (.pv (.bool ended))), (4, (.pv (.bool over))), (5, (.pv (.bool change))), (6, (.pv (.int .i64 i))), (7, r)] σ (selvageref10_rows.q17 X w0 n R)
def selvageref10_rows.n34 (X : XT) (w0 : Base) (n : Nat) (R : AV → Store → Prop) (σ : Store) (l_ : AV) (ended : Bool) (over : Bool) (change : Bool) (i : Int) : Prop :=
  X (cAt selvageref10_rows.code 34) 34 [(0, l_), (3, (.pv (.bool ended))), (4, (.pv (.bool over))), (5, (.pv (.bool change))), (6, (.pv (.int .i64 i)))] σ (selvageref10_rows.q9 X w0 n R)
def selvageref10_rows.b34 (X : XT) (w0 : Base) (n : Nat) (R : AV → Store → Prop) (σ : Store) (l_ : AV) (ended : Bool) (over : Bool) (change : Bool) (i : Int) : Prop :=
  pcodeX (cx w0) 74 selvageref10_rows.lv n selvageref10_rows.cuts X (cAt selvageref10_rows.code 34) 34 [(0, l_), (3, (.pv (.bool ended))), (4, (.pv (.bool over))), (5, (.pv (.bool change))), (6, (.pv (.int .i64 i)))] σ (selvageref10_rows.q9 X w0 n R)
def selvageref10_rows.n35 (X : XT) (w0 : Base) (n : Nat) (R : AV → Store → Prop) (σ : Store) (change : Bool) : Prop :=
  X (cAt selvageref10_rows.code 35) 35 [(5, (.pv (.bool change)))] σ (finQ (cx w0) Tryz.f47 n R)
def selvageref10_rows.b35 (X : XT) (w0 : Base) (n : Nat) (R : AV → Store → Prop) (σ : Store) (change : Bool) : Prop :=
  pcodeX (cx w0) 74 selvageref10_rows.lv n selvageref10_rows.cuts X (cAt selvageref10_rows.code 35) 35 [(5, (.pv (.bool change)))] σ (finQ (cx w0) Tryz.f47 n R)
def selvageref10_rows.b0 (X : XT) (w0 : Base) (n : Nat) (R : AV → Store → Prop) (σ : Store) (l_ : AV) : Prop :=
  pcodeX (cx w0) 74 selvageref10_rows.lv n selvageref10_rows.cuts X selvageref10_rows.code 0 (argsE 0 [l_]) σ (finQ (cx w0) Tryz.f47 n R)
theorem selvageref10_rows.n8_in {w0 : Base} {n : Nat} {R : AV → Store → Prop} {σ : Store} {l_ : AV} {ended : Bool} {over : Bool} {change : Bool} {i : Int} (h : selvageref10_rows.b9 (selvageref10_rows.X w0 n) w0 n R σ l_ ended over change i) : selvageref10_rows.n8 (selvageref10_rows.X w0 n) w0 n R σ l_ ended over change i := xr_round (cxOK w0) (S := selvageref10_rows.cuts) (by kernel_rfl : cAt selvageref10_rows.code 8 = .loop (cAt selvageref10_rows.code 9)) h
theorem selvageref10_rows.n8_weak {w0 : Base} {n : Nat} {R : AV → Store → Prop} {σ τ : Store} {l_ : AV} {ended : Bool} {over : Bool} {change : Bool} {i : Int} {l_' : AV} {ended' : Bool} {over' : Bool} {change' : Bool} {i' : Int} (e : EWeak (cx w0) n [(0, l_), (3, (.pv (.bool ended))), (4, (.pv (.bool over))), (5, (.pv (.bool change))), (6, (.pv (.int .i64 i)))] σ [(0, l_'), (3, (.pv (.bool ended'))), (4, (.pv (.bool over'))), (5, (.pv (.bool change'))), (6, (.pv (.int .i64 i')))] τ) (h : selvageref10_rows.n8 (selvageref10_rows.X w0 n) w0 n R τ l_' ended' over' change' i') : selvageref10_rows.n8 (selvageref10_rows.X w0 n) w0 n R σ l_ ended over change i := xr_weak (L := selvageref10_rows.lv) (k := 8) (by kernel_rfl : cAt selvageref10_rows.code 8 = .loop (cAt selvageref10_rows.code 9)) e h
theorem selvageref10_rows.b9_eq (X : XT) (w0 : Base) (n : Nat) (R : AV → Store → Prop) (σ : Store) (l_ : AV) (ended : Bool) (over : Bool) (change : Bool) (i : Int) : selvageref10_rows.b9 X w0 n R σ l_ ended over change i = (
  opt (aLen ti35.td l_) fun t11 => isI .i64 t11 fun t11_1 => condB (decide ((i : Int) < t11_1)) (opt (aIndexAddr σ tabS ti35.td l_ i) fun t17 => opt (aLoad σ ti65 t17) fun t18 => opt (aStore (σ ++ [.cells 65 (AV.ofValue ti65.zero).cells]) ti65 (.ptr (List.length σ) 0) t18) fun σ' => opt (aLoad σ' ti65 (.ptr (List.length σ) 0)) fun t19 => SCalls (cx w0) selvageref10_old.id [t19] σ' fun r σ'_1 => isB r fun t20 => condB (!t20) (opt (aLoad σ'_1 ti65 (.ptr (List.length σ) 0)) fun t23 => SCalls (cx w0) selvageref10_fresh.id [t23] σ'_1 fun r_1 σ'_2 => isB r_1 fun t24 => condB (!t24) (selvageref10_rows.n22 X w0 n R σ'_2 l_ ended over change i (.ptr (List.length σ) 0) true) (opt (aFieldAddr tabS ti65.td (.ptr (List.length σ) 0) 1) fun t28 => opt (aLoad σ'_2 ti9 t28) fun t29 => isS t29 fun t29_1 => SCalls (cx w0) selvageref10_line.id [(.pv (.str t29_1))] σ'_2 fun r_2 σ'_3 => isB r_2 fun t30 => condB (!t30) (selvageref10_rows.n22 X w0 n R σ'_3 l_ ended over change i (.ptr (List.length σ) 0) true) (opt (aLoad σ'_3 ti65 (.ptr (List.length σ) 0)) fun t34 => SCalls (cx w0) selvageref10_old.id [t34] σ'_3 fun r_3 σ'_4 => isB r_3 fun t35 => condB t35 (condB ended (selvageref10_rows.n22 X w0 n R σ'_4 l_ ended over change i (.ptr (List.length σ) 0) true) (opt (aLoad σ'_4 ti65 (.ptr (List.length σ) 0)) fun t41 => SCalls (cx w0) selvageref10_fresh.id [t41] σ'_4 fun r_4 σ'_5 => isB r_4 fun t42 => condB t42 (selvageref10_rows.n22 X w0 n R σ'_5 l_ ended over change i (.ptr (List.length σ) 0) over) (selvageref10_rows.n22 X w0 n R σ'_5 l_ ended over change i (.ptr (List.length σ) 0) false))) (opt (aLoad σ'_4 ti65 (.ptr (List.length σ) 0)) fun t41 => SCalls (cx w0) selvageref10_fresh.id [t41] σ'_4 fun r_4 σ'_5 => isB r_4 fun t42 => condB t42 (selvageref10_rows.n22 X w0 n R σ'_5 l_ ended over change i (.ptr (List.length σ) 0) over) (selvageref10_rows.n22 X w0 n R σ'_5 l_ ended over change i (.ptr (List.length σ) 0) false))))) (opt (aFieldAddr tabS ti65.td (.ptr (List.length σ) 0) 1) fun t28 => opt (aLoad σ'_1 ti9 t28) fun t29 => isS t29 fun t29_1 => SCalls (cx w0) selvageref10_line.id [(.pv (.str t29_1))] σ'_1 fun r_1 σ'_2 => isB r_1 fun t30 => condB (!t30) (selvageref10_rows.n22 X w0 n R σ'_2 l_ ended over change i (.ptr (List.length σ) 0) true) (opt (aLoad σ'_2 ti65 (.ptr (List.length σ) 0)) fun t34 => SCalls (cx w0) selvageref10_old.id [t34] σ'_2 fun r_2 σ'_3 => isB r_2 fun t35 => condB t35 (condB ended (selvageref10_rows.n22 X w0 n R σ'_3 l_ ended over change i (.ptr (List.length σ) 0) true) (opt (aLoad σ'_3 ti65 (.ptr (List.length σ) 0)) fun t41 => SCalls (cx w0) selvageref10_fresh.id [t41] σ'_3 fun r_3 σ'_4 => isB r_3 fun t42 => condB t42 (selvageref10_rows.n22 X w0 n R σ'_4 l_ ended over change i (.ptr (List.length σ) 0) over) (selvageref10_rows.n22 X w0 n R σ'_4 l_ ended over change i (.ptr (List.length σ) 0) false))) (opt (aLoad σ'_3 ti65 (.ptr (List.length σ) 0)) fun t41 => SCalls (cx w0) selvageref10_fresh.id [t41] σ'_3 fun r_3 σ'_4 => isB r_3 fun t42 => condB t42 (selvageref10_rows.n22 X w0 n R σ'_4 l_ ended over change i (.ptr (List.length σ) 0) over) (selvageref10_rows.n22 X w0 n R σ'_4 l_ ended over change i (.ptr (List.length σ) 0) false))))) (selvageref10_rows.n35 X w0 n R σ change)) := by kernel_rfl
theorem selvageref10_rows.n9_in {w0 : Base} {n : Nat} {R : AV → Store → Prop} {σ : Store} {l_ : AV} {ended : Bool} {over : Bool} {change : Bool} {i : Int} (h : selvageref10_rows.b9 (selvageref10_rows.X w0 n) w0 n R σ l_ ended over change i) : selvageref10_rows.n9 (selvageref10_rows.X w0 n) w0 n R σ l_ ended over change i := xr_in (S := selvageref10_rows.cuts) (by kernel_rfl) h
theorem selvageref10_rows.b22_eq (X : XT) (w0 : Base) (n : Nat) (R : AV → Store → Prop) (σ : Store) (l_ : AV) (ended : Bool) (over : Bool) (change : Bool) (i : Int) (r : AV) (t46 : Bool) : selvageref10_rows.b22 X w0 n R σ l_ ended over change i r t46 = (
  condB t46 (FinK (cx w0) n (.pv (.bool false)) σ R) (opt (aFieldAddr tabS ti65.td r 1) fun t47 => opt (aLoad σ ti9 t47) fun t48 => isS t48 fun t48_1 => SCalls (cx w0) selvageref01_Whole.id [(.pv (.str t48_1))] σ fun r_1 σ' => isB r_1 fun t49 => condB ended (selvageref10_rows.n31 X w0 n R σ' l_ true over change i r (!t49)) (condB (!t49) (opt (aLoad σ' ti65 r) fun t55 => SCalls (cx w0) selvageref10_old.id [t55] σ' fun r_2 σ'_1 => isB r_2 fun t56 => selvageref10_rows.n31 X w0 n R σ'_1 l_ t56 over change i r (!t49)) (selvageref10_rows.n31 X w0 n R σ' l_ false over change i r (!t49))))) := by kernel_rfl
theorem selvageref10_rows.n22_in {w0 : Base} {n : Nat} {R : AV → Store → Prop} {σ : Store} {l_ : AV} {ended : Bool} {over : Bool} {change : Bool} {i : Int} {r : AV} {t46 : Bool} (h : selvageref10_rows.b22 (selvageref10_rows.X w0 n) w0 n R σ l_ ended over change i r t46) : selvageref10_rows.n22 (selvageref10_rows.X w0 n) w0 n R σ l_ ended over change i r t46 := xr_in (S := selvageref10_rows.cuts) (by kernel_rfl) h
theorem selvageref10_rows.b31_eq (X : XT) (w0 : Base) (n : Nat) (R : AV → Store → Prop) (σ : Store) (l_ : AV) (ended : Bool) (over : Bool) (change : Bool) (i : Int) (r : AV) (part : Bool) : selvageref10_rows.b31 X w0 n R σ l_ ended over change i r part = (
  condB over (selvageref10_rows.n33 X w0 n R σ l_ ended true change i r) (condB part (opt (aLoad σ ti65 r) fun t63 => SCalls (cx w0) selvageref10_fresh.id [t63] σ fun r_1 σ' => isB r_1 fun t64 => selvageref10_rows.n33 X w0 n R σ' l_ ended t64 change i r) (selvageref10_rows.n33 X w0 n R σ l_ ended false change i r))) := by kernel_rfl
theorem selvageref10_rows.n31_in {w0 : Base} {n : Nat} {R : AV → Store → Prop} {σ : Store} {l_ : AV} {ended : Bool} {over : Bool} {change : Bool} {i : Int} {r : AV} {part : Bool} (h : selvageref10_rows.b31 (selvageref10_rows.X w0 n) w0 n R σ l_ ended over change i r part) : selvageref10_rows.n31 (selvageref10_rows.X w0 n) w0 n R σ l_ ended over change i r part := xr_in (S := selvageref10_rows.cuts) (by kernel_rfl) h
theorem selvageref10_rows.b33_eq (X : XT) (w0 : Base) (n : Nat) (R : AV → Store → Prop) (σ : Store) (l_ : AV) (ended : Bool) (over : Bool) (change : Bool) (i : Int) (r : AV) : selvageref10_rows.b33 X w0 n R σ l_ ended over change i r = (
  condB change (selvageref10_rows.n34 X w0 n R σ l_ ended over true i) (opt (aFieldAddr tabS ti65.td r 0) fun t69 => opt (aLoad σ ti3 t69) fun t70 => isI .i64 t70 fun t70_1 => selvageref10_rows.n34 X w0 n R σ l_ ended over ((t70_1 : Int) != 1) i)) := by kernel_rfl
theorem selvageref10_rows.n33_in {w0 : Base} {n : Nat} {R : AV → Store → Prop} {σ : Store} {l_ : AV} {ended : Bool} {over : Bool} {change : Bool} {i : Int} {r : AV} (h : selvageref10_rows.b33 (selvageref10_rows.X w0 n) w0 n R σ l_ ended over change i r) : selvageref10_rows.n33 (selvageref10_rows.X w0 n) w0 n R σ l_ ended over change i r := xr_in (S := selvageref10_rows.cuts) (by kernel_rfl) h
theorem selvageref10_rows.b34_eq (X : XT) (w0 : Base) (n : Nat) (R : AV → Store → Prop) (σ : Store) (l_ : AV) (ended : Bool) (over : Bool) (change : Bool) (i : Int) : selvageref10_rows.b34 X w0 n R σ l_ ended over change i = (
  selvageref10_rows.n8 X w0 n R σ l_ ended over change (IntKind.wrap .i64 (i + 1))) := by kernel_rfl
theorem selvageref10_rows.n34_in {w0 : Base} {n : Nat} {R : AV → Store → Prop} {σ : Store} {l_ : AV} {ended : Bool} {over : Bool} {change : Bool} {i : Int} (h : selvageref10_rows.b34 (selvageref10_rows.X w0 n) w0 n R σ l_ ended over change i) : selvageref10_rows.n34 (selvageref10_rows.X w0 n) w0 n R σ l_ ended over change i := xr_in (S := selvageref10_rows.cuts) (by kernel_rfl) h
theorem selvageref10_rows.b35_eq (X : XT) (w0 : Base) (n : Nat) (R : AV → Store → Prop) (σ : Store) (change : Bool) : selvageref10_rows.b35 X w0 n R σ change = (
  FinK (cx w0) n (.pv (.bool change)) σ R) := by kernel_rfl
theorem selvageref10_rows.n35_in {w0 : Base} {n : Nat} {R : AV → Store → Prop} {σ : Store} {change : Bool} (h : selvageref10_rows.b35 (selvageref10_rows.X w0 n) w0 n R σ change) : selvageref10_rows.n35 (selvageref10_rows.X w0 n) w0 n R σ change := xr_in (S := selvageref10_rows.cuts) (by kernel_rfl) h
theorem selvageref10_rows.b0_eq (X : XT) (w0 : Base) (n : Nat) (R : AV → Store → Prop) (σ : Store) (l_ : AV) : selvageref10_rows.b0 X w0 n R σ l_ = (
  selvageref10_rows.n8 X w0 n R σ l_ false false false 0) := by kernel_rfl
theorem selvageref10_rows.ok (w0 : Base) : FOK (cx w0) selvageref10_rows.id selvageref10_rows.fe := ⟨Tryz.func47, by kernel_rfl, by kernel_rfl⟩
theorem selvageref10_rows.calls {w0 : Base} {R : AV → Store → Prop} {σ : Store} {l_ : AV} (h : selvageref10_rows.b0 (selvageref10_rows.X w0 (List.length σ)) w0 (List.length σ) R σ l_) : SCalls (cx w0) selvageref10_rows.id [l_] σ R :=
  xr_enter (cxOK w0) (x := selvageref10_rows.fe) (S := selvageref10_rows.cuts) (selvageref10_rows.ok w0) (by kernel_rfl) h
/-! ### selvage/selvageref10.start -/
def selvageref10_start.lvs : List (List Nat) := [[0, 1], [0, 1], [0, 1], [0, 1], [0, 1, 5], [0, 1, 5], [0, 1, 5], [0, 1, 5, 7], [0, 1], [0, 1, 5], [0, 1, 5], [0, 1, 5], [4]]
def selvageref10_start.lv : Nat → List Nat := lvOf selvageref10_start.lvs
noncomputable def selvageref10_start.code : Code := bodyOf Tryz.f48
noncomputable def selvageref10_start.fe : FE := ⟨Tryz.f48, selvageref10_start.code, selvageref10_start.lv⟩
def selvageref10_start.cuts : List Nat := [10, 12]
abbrev selvageref10_start.X (w0 : Base) (n : Nat) : XT := xr (cx w0) 17 selvageref10_start.lv n
def selvageref10_start.n10 (X : XT) (w0 : Base) (n : Nat) (R : AV → Store → Prop) (σ : Store) (a : Int) (n_ : Int) (least : Int) : Prop :=
  X (cAt selvageref10_start.code 10) 10 [(0, (.pv (.int .i64 a))), (1, (.pv (.int .i64 n_))), (5, (.pv (.int .i64 least)))] σ (finQ (cx w0) Tryz.f48 n R)
def selvageref10_start.b10 (X : XT) (w0 : Base) (n : Nat) (R : AV → Store → Prop) (σ : Store) (a : Int) (n_ : Int) (least : Int) : Prop :=
  pcodeX (cx w0) 17 selvageref10_start.lv n selvageref10_start.cuts X (cAt selvageref10_start.code 10) 10 [(0, (.pv (.int .i64 a))), (1, (.pv (.int .i64 n_))), (5, (.pv (.int .i64 least)))] σ (finQ (cx w0) Tryz.f48 n R)
def selvageref10_start.n12 (X : XT) (w0 : Base) (n : Nat) (R : AV → Store → Prop) (σ : Store) (t4 : Bool) : Prop :=
  X (cAt selvageref10_start.code 12) 12 [(4, (.pv (.bool t4)))] σ (finQ (cx w0) Tryz.f48 n R)
def selvageref10_start.b12 (X : XT) (w0 : Base) (n : Nat) (R : AV → Store → Prop) (σ : Store) (t4 : Bool) : Prop :=
  pcodeX (cx w0) 17 selvageref10_start.lv n selvageref10_start.cuts X (cAt selvageref10_start.code 12) 12 [(4, (.pv (.bool t4)))] σ (finQ (cx w0) Tryz.f48 n R)
def selvageref10_start.b0 (X : XT) (w0 : Base) (n : Nat) (R : AV → Store → Prop) (σ : Store) (a : Int) (n_ : Int) : Prop :=
  pcodeX (cx w0) 17 selvageref10_start.lv n selvageref10_start.cuts X selvageref10_start.code 0 (argsE 0 [(.pv (.int .i64 a)), (.pv (.int .i64 n_))]) σ (finQ (cx w0) Tryz.f48 n R)
theorem selvageref10_start.b10_eq (X : XT) (w0 : Base) (n : Nat) (R : AV → Store → Prop) (σ : Store) (a : Int) (n_ : Int) (least : Int) : selvageref10_start.b10 X w0 n R σ a n_ least = (
  condB (decide ((a : Int) ≥ least)) (selvageref10_start.n12 X w0 n R σ (decide ((a : Int) ≤ (IntKind.wrap .i64 (2147483647 - n_))))) (selvageref10_start.n12 X w0 n R σ false)) := by kernel_rfl
theorem selvageref10_start.n10_in {w0 : Base} {n : Nat} {R : AV → Store → Prop} {σ : Store} {a : Int} {n_ : Int} {least : Int} (h : selvageref10_start.b10 (selvageref10_start.X w0 n) w0 n R σ a n_ least) : selvageref10_start.n10 (selvageref10_start.X w0 n) w0 n R σ a n_ least := xr_in (S := selvageref10_start.cuts) (by kernel_rfl) h
theorem selvageref10_start.b12_eq (X : XT) (w0 : Base) (n : Nat) (R : AV → Store → Prop) (σ : Store) (t4 : Bool) : selvageref10_start.b12 X w0 n R σ t4 = (
  FinK (cx w0) n (.pv (.bool t4)) σ R) := by kernel_rfl
theorem selvageref10_start.n12_in {w0 : Base} {n : Nat} {R : AV → Store → Prop} {σ : Store} {t4 : Bool} (h : selvageref10_start.b12 (selvageref10_start.X w0 n) w0 n R σ t4) : selvageref10_start.n12 (selvageref10_start.X w0 n) w0 n R σ t4 := xr_in (S := selvageref10_start.cuts) (by kernel_rfl) h
theorem selvageref10_start.b0_eq (X : XT) (w0 : Base) (n : Nat) (R : AV → Store → Prop) (σ : Store) (a : Int) (n_ : Int) : selvageref10_start.b0 X w0 n R σ a n_ = (
  condB ((n_ : Int) == 0) (selvageref10_start.n10 X w0 n R σ a n_ 0) (selvageref10_start.n10 X w0 n R σ a n_ 1)) := by kernel_rfl
theorem selvageref10_start.ok (w0 : Base) : FOK (cx w0) selvageref10_start.id selvageref10_start.fe := ⟨Tryz.func48, by kernel_rfl, by kernel_rfl⟩
theorem selvageref10_start.calls {w0 : Base} {R : AV → Store → Prop} {σ : Store} {a : Int} {n_ : Int} (h : selvageref10_start.b0 (selvageref10_start.X w0 (List.length σ)) w0 (List.length σ) R σ a n_) : SCalls (cx w0) selvageref10_start.id [(.pv (.int .i64 a)), (.pv (.int .i64 n_))] σ R :=
  xr_enter (cxOK w0) (x := selvageref10_start.fe) (S := selvageref10_start.cuts) (selvageref10_start.ok w0) (by kernel_rfl) h
/-! ### selvage/selvageref10.Valid -/
def selvageref10_Valid.lvs : List (List Nat) := [[0], [0], [1], [1], [1, 3, 4], [1, 3, 4], [1, 5], [1, 5], [1, 5], [1, 5, 6], [1, 5, 6], [1, 5, 6], [1, 5, 6], [1, 5, 6], [1, 5, 6, 50], [1, 5, 6], [5], [1, 5, 6], [1, 5, 6], [1, 5, 6], [1, 5, 6], [5], [5], [5], [62], [], [], [2], [], [], [], [2]]
def selvageref10_Valid.lv : Nat → List Nat := lvOf selvageref10_Valid.lvs
noncomputable def selvageref10_Valid.code : Code := bodyOf Tryz.f25
noncomputable def selvageref10_Valid.fe : FE := ⟨Tryz.f25, selvageref10_Valid.code, selvageref10_Valid.lv⟩
def selvageref10_Valid.cuts : List Nat := [6, 11, 20, 21]
abbrev selvageref10_Valid.X (w0 : Base) (n : Nat) : XT := xr (cx w0) 63 selvageref10_Valid.lv n
def selvageref10_Valid.q7 (X : XT) (w0 : Base) (n : Nat) (R : AV → Store → Prop) : Exit → Env → Store → Prop := thenQ (fun env σ => X (cAt selvageref10_Valid.code 21) 21 (prune (selvageref10_Valid.lv 21) env) σ (finQ (cx w0) Tryz.f25 n R)) (finQ (cx w0) Tryz.f25 n R)
def selvageref10_Valid.q10 (X : XT) (w0 : Base) (n : Nat) (R : AV → Store → Prop) : Exit → Env → Store → Prop := blockQ 0 (selvageref10_Valid.q7 X w0 n R)
def selvageref10_Valid.q11 (X : XT) (w0 : Base) (n : Nat) (R : AV → Store → Prop) : Exit → Env → Store → Prop := thenQ (fun env σ => X (cAt selvageref10_Valid.code 10) 10 (prune (selvageref10_Valid.lv 10) env) σ (selvageref10_Valid.q10 X w0 n R)) (selvageref10_Valid.q10 X w0 n R)
def selvageref10_Valid.n6 (X : XT) (w0 : Base) (n : Nat) (R : AV → Store → Prop) (σ : Store) (h_ : AV) (ok : Bool) : Prop :=
  X (cAt selvageref10_Valid.code 6) 6 [(1, h_), (5, (.pv (.bool ok)))] σ (finQ (cx w0) Tryz.f25 n R)
def selvageref10_Valid.b6 (X : XT) (w0 : Base) (n : Nat) (R : AV → Store → Prop) (σ : Store) (h_ : AV) (ok : Bool) : Prop :=
  pcodeX (cx w0) 63 selvageref10_Valid.lv n selvageref10_Valid.cuts X (cAt selvageref10_Valid.code 6) 6 [(1, h_), (5, (.pv (.bool ok)))] σ (finQ (cx w0) Tryz.f25 n R)
def selvageref10_Valid.n10 (X : XT) (w0 : Base) (n : Nat) (R : AV → Store → Prop) (σ : Store) (h_ : AV) (ok : Bool) (i : Int) : Prop :=
  X (cAt selvageref10_Valid.code 10) 10 [(1, h_), (5, (.pv (.bool ok))), (6, (.pv (.int .i64 i)))] σ (selvageref10_Valid.q10 X w0 n R)
def selvageref10_Valid.n11 (X : XT) (w0 : Base) (n : Nat) (R : AV → Store → Prop) (σ : Store) (h_ : AV) (ok : Bool) (i : Int) : Prop :=
  X (cAt selvageref10_Valid.code 11) 11 [(1, h_), (5, (.pv (.bool ok))), (6, (.pv (.int .i64 i)))] σ (selvageref10_Valid.q11 X w0 n R)
def selvageref10_Valid.b11 (X : XT) (w0 : Base) (n : Nat) (R : AV → Store → Prop) (σ : Store) (h_ : AV) (ok : Bool) (i : Int) : Prop :=
  pcodeX (cx w0) 63 selvageref10_Valid.lv n selvageref10_Valid.cuts X (cAt selvageref10_Valid.code 11) 11 [(1, h_), (5, (.pv (.bool ok))), (6, (.pv (.int .i64 i)))] σ (selvageref10_Valid.q11 X w0 n R)
def selvageref10_Valid.n20 (X : XT) (w0 : Base) (n : Nat) (R : AV → Store → Prop) (σ : Store) (h_ : AV) (ok : Bool) (i : Int) : Prop :=
  X (cAt selvageref10_Valid.code 20) 20 [(1, h_), (5, (.pv (.bool ok))), (6, (.pv (.int .i64 i)))] σ (selvageref10_Valid.q11 X w0 n R)
def selvageref10_Valid.b20 (X : XT) (w0 : Base) (n : Nat) (R : AV → Store → Prop) (σ : Store) (h_ : AV) (ok : Bool) (i : Int) : Prop :=
  pcodeX (cx w0) 63 selvageref10_Valid.lv n selvageref10_Valid.cuts X (cAt selvageref10_Valid.code 20) 20 [(1, h_), (5, (.pv (.bool ok))), (6, (.pv (.int .i64 i)))] σ (selvageref10_Valid.q11 X w0 n R)
def selvageref10_Valid.n21 (X : XT) (w0 : Base) (n : Nat) (R : AV → Store → Prop) (σ : Store) (ok : Bool) : Prop :=
  X (cAt selvageref10_Valid.code 21) 21 [(5, (.pv (.bool ok)))] σ (finQ (cx w0) Tryz.f25 n R)
def selvageref10_Valid.b21 (X : XT) (w0 : Base) (n : Nat) (R : AV → Store → Prop) (σ : Store) (ok : Bool) : Prop :=
  pcodeX (cx w0) 63 selvageref10_Valid.lv n selvageref10_Valid.cuts X (cAt selvageref10_Valid.code 21) 21 [(5, (.pv (.bool ok)))] σ (finQ (cx w0) Tryz.f25 n R)
def selvageref10_Valid.b0 (X : XT) (w0 : Base) (n : Nat) (R : AV → Store → Prop) (σ : Store) (h_ : AV) : Prop :=
  pcodeX (cx w0) 63 selvageref10_Valid.lv n selvageref10_Valid.cuts X selvageref10_Valid.code 0 (argsE 0 [h_]) σ (finQ (cx w0) Tryz.f25 n R)
theorem selvageref10_Valid.b6_eq (X : XT) (w0 : Base) (n : Nat) (R : AV → Store → Prop) (σ : Store) (h_ : AV) (ok : Bool) : selvageref10_Valid.b6 X w0 n R σ h_ ok = (
  selvageref10_Valid.n10 X w0 n R σ h_ ok 0) := by kernel_rfl
theorem selvageref10_Valid.n6_in {w0 : Base} {n : Nat} {R : AV → Store → Prop} {σ : Store} {h_ : AV} {ok : Bool} (h : selvageref10_Valid.b6 (selvageref10_Valid.X w0 n) w0 n R σ h_ ok) : selvageref10_Valid.n6 (selvageref10_Valid.X w0 n) w0 n R σ h_ ok := xr_in (S := selvageref10_Valid.cuts) (by kernel_rfl) h
theorem selvageref10_Valid.n10_in {w0 : Base} {n : Nat} {R : AV → Store → Prop} {σ : Store} {h_ : AV} {ok : Bool} {i : Int} (h : selvageref10_Valid.b11 (selvageref10_Valid.X w0 n) w0 n R σ h_ ok i) : selvageref10_Valid.n10 (selvageref10_Valid.X w0 n) w0 n R σ h_ ok i := xr_round (cxOK w0) (S := selvageref10_Valid.cuts) (by kernel_rfl : cAt selvageref10_Valid.code 10 = .loop (cAt selvageref10_Valid.code 11)) h
theorem selvageref10_Valid.n10_weak {w0 : Base} {n : Nat} {R : AV → Store → Prop} {σ τ : Store} {h_ : AV} {ok : Bool} {i : Int} {h_' : AV} {ok' : Bool} {i' : Int} (e : EWeak (cx w0) n [(1, h_), (5, (.pv (.bool ok))), (6, (.pv (.int .i64 i)))] σ [(1, h_'), (5, (.pv (.bool ok'))), (6, (.pv (.int .i64 i')))] τ) (h : selvageref10_Valid.n10 (selvageref10_Valid.X w0 n) w0 n R τ h_' ok' i') : selvageref10_Valid.n10 (selvageref10_Valid.X w0 n) w0 n R σ h_ ok i := xr_weak (L := selvageref10_Valid.lv) (k := 10) (by kernel_rfl : cAt selvageref10_Valid.code 10 = .loop (cAt selvageref10_Valid.code 11)) e h
theorem selvageref10_Valid.b11_eq (X : XT) (w0 : Base) (n : Nat) (R : AV → Store → Prop) (σ : Store) (h_ : AV) (ok : Bool) (i : Int) : selvageref10_Valid.b11 X w0 n R σ h_ ok i = (
  opt (aFieldAddr tabS ti37.td h_ 4) fun t47 => opt (aLoad σ ti9 t47) fun t48 => isS t48 fun t48_1 => condB (decide ((i : Int) < (List.length (t48_1 : List UInt8) : Int))) (condB ok (opt (aFieldAddr tabS ti37.td h_ 4) fun t55 => opt (aLoad σ ti9 t55) fun t56 => isS t56 fun t56_1 => opt (aIndex tabS ti9.td (.pv (.str t56_1)) i) fun t58 => isI .u8 t58 fun t58_1 => selvageref10_Valid.n20 X w0 n R σ h_ ((t58_1 : Int) != 10) i) (selvageref10_Valid.n20 X w0 n R σ h_ false i)) (selvageref10_Valid.n21 X w0 n R σ ok)) := by kernel_rfl
theorem selvageref10_Valid.n11_in {w0 : Base} {n : Nat} {R : AV → Store → Prop} {σ : Store} {h_ : AV} {ok : Bool} {i : Int} (h : selvageref10_Valid.b11 (selvageref10_Valid.X w0 n) w0 n R σ h_ ok i) : selvageref10_Valid.n11 (selvageref10_Valid.X w0 n) w0 n R σ h_ ok i := xr_in (S := selvageref10_Valid.cuts) (by kernel_rfl) h
theorem selvageref10_Valid.b20_eq (X : XT) (w0 : Base) (n : Nat) (R : AV → Store → Prop) (σ : Store) (h_ : AV) (ok : Bool) (i : Int) : selvageref10_Valid.b20 X w0 n R σ h_ ok i = (
  selvageref10_Valid.n10 X w0 n R σ h_ ok (IntKind.wrap .i64 (i + 1))) := by kernel_rfl
theorem selvageref10_Valid.n20_in {w0 : Base} {n : Nat} {R : AV → Store → Prop} {σ : Store} {h_ : AV} {ok : Bool} {i : Int} (h : selvageref10_Valid.b20 (selvageref10_Valid.X w0 n) w0 n R σ h_ ok i) : selvageref10_Valid.n20 (selvageref10_Valid.X w0 n) w0 n R σ h_ ok i := xr_in (S := selvageref10_Valid.cuts) (by kernel_rfl) h
theorem selvageref10_Valid.b21_eq (X : XT) (w0 : Base) (n : Nat) (R : AV → Store → Prop) (σ : Store) (ok : Bool) : selvageref10_Valid.b21 X w0 n R σ ok = (
  condB (!ok) (FinK (cx w0) n (.pv (.int .i64 100)) σ R) (FinK (cx w0) n (.pv (.int .i64 0)) σ R)) := by kernel_rfl
theorem selvageref10_Valid.n21_in {w0 : Base} {n : Nat} {R : AV → Store → Prop} {σ : Store} {ok : Bool} (h : selvageref10_Valid.b21 (selvageref10_Valid.X w0 n) w0 n R σ ok) : selvageref10_Valid.n21 (selvageref10_Valid.X w0 n) w0 n R σ ok := xr_in (S := selvageref10_Valid.cuts) (by kernel_rfl) h
theorem selvageref10_Valid.b0_eq (X : XT) (w0 : Base) (n : Nat) (R : AV → Store → Prop) (σ : Store) (h_ : AV) : selvageref10_Valid.b0 X w0 n R σ h_ = (
  ((AV.cells h_).all AV.one = true ∧ (opt (aFieldAddr tabS ti37.td (.ptr (List.length σ) 0) 5) fun t8 => opt (aLoad (σ ++ [.cells 37 (AV.cells h_)]) ti35 t8) fun t9 => SCalls (cx w0) selvageref10_Counts.id [t9] (σ ++ [.cells 37 (AV.cells h_)]) fun r σ' => isTup r fun vs => opt ((vs)[0]?) fun t11 => isI .i64 t11 fun t11_1 => isTup r fun vs_1 => opt ((vs_1)[1]?) fun t12 => isI .i64 t12 fun t12_1 => opt (aFieldAddr tabS ti37.td (.ptr (List.length σ) 0) 5) fun t13 => opt (aLoad σ' ti35 t13) fun t14 => SCalls (cx w0) selvageref10_rows.id [t14] σ' fun r_1 σ'_1 => isB r_1 fun t15 => condB t15 (opt (aFieldAddr tabS ti37.td (.ptr (List.length σ) 0) 1) fun t17 => opt (aLoad σ'_1 ti3 t17) fun t18 => isI .i64 t18 fun t18_1 => condB ((t18_1 : Int) == t11_1) (opt (aFieldAddr tabS ti37.td (.ptr (List.length σ) 0) 3) fun t23 => opt (aLoad σ'_1 ti3 t23) fun t24 => isI .i64 t24 fun t24_1 => condB ((t24_1 : Int) == t12_1) (opt (aFieldAddr tabS ti37.td (.ptr (List.length σ) 0) 0) fun t29 => opt (aLoad σ'_1 ti3 t29) fun t30 => isI .i64 t30 fun t30_1 => SCalls (cx w0) selvageref10_start.id [(.pv (.int .i64 t30_1)), (.pv (.int .i64 t11_1))] σ'_1 fun r_2 σ'_2 => isB r_2 fun t32 => condB t32 (opt (aFieldAddr tabS ti37.td (.ptr (List.length σ) 0) 2) fun t35 => opt (aLoad σ'_2 ti3 t35) fun t36 => isI .i64 t36 fun t36_1 => SCalls (cx w0) selvageref10_start.id [(.pv (.int .i64 t36_1)), (.pv (.int .i64 t12_1))] σ'_2 fun r_3 σ'_3 => isB r_3 fun t38 => condB t38 (opt (aFieldAddr tabS ti37.td (.ptr (List.length σ) 0) 4) fun t41 => opt (aLoad σ'_3 ti9 t41) fun t42 => isS t42 fun t42_1 => selvageref10_Valid.n6 X w0 n R σ'_3 (.ptr (List.length σ) 0) (decide (((List.length (t42_1 : List UInt8) : Int) : Int) ≤ 4096))) (selvageref10_Valid.n6 X w0 n R σ'_3 (.ptr (List.length σ) 0) false)) (selvageref10_Valid.n6 X w0 n R σ'_2 (.ptr (List.length σ) 0) false)) (selvageref10_Valid.n6 X w0 n R σ'_1 (.ptr (List.length σ) 0) false)) (selvageref10_Valid.n6 X w0 n R σ'_1 (.ptr (List.length σ) 0) false)) (selvageref10_Valid.n6 X w0 n R σ'_1 (.ptr (List.length σ) 0) false)))) := by kernel_rfl
theorem selvageref10_Valid.ok (w0 : Base) : FOK (cx w0) selvageref10_Valid.id selvageref10_Valid.fe := ⟨Tryz.func25, by kernel_rfl, by kernel_rfl⟩
theorem selvageref10_Valid.calls {w0 : Base} {R : AV → Store → Prop} {σ : Store} {h_ : AV} (h : selvageref10_Valid.b0 (selvageref10_Valid.X w0 (List.length σ)) w0 (List.length σ) R σ h_) : SCalls (cx w0) selvageref10_Valid.id [h_] σ R :=
  xr_enter (cxOK w0) (x := selvageref10_Valid.fe) (S := selvageref10_Valid.cuts) (selvageref10_Valid.ok w0) (by kernel_rfl) h
end Go.Sv
