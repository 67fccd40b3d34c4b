/- What the code of Go functions comes to over abstract stores, piece by piece; each equation by the kernel. Printed by a program of this session. -/
import Derived.Test.YthkedonibhajbaaGreatDoorSvT
import Derived.KernelRfl
set_option linter.unusedVariables false
set_option maxRecDepth 100000
namespace Go.Sv
open Go Go.Proofs
/-! ### selvage/selvageref10.old -/
def selvageref10_old.lvs : List (List Nat) := [[0], [0], [1], [1], [2]]
def selvageref10_old.lv : Nat → List Nat := lvOf selvageref10_old.lvs
noncomputable def selvageref10_old.code : Code := bodyOf Tryz.f38
noncomputable def selvageref10_old.fe : FE := ⟨Tryz.f38, selvageref10_old.code, selvageref10_old.lv⟩
def selvageref10_old.cuts : List Nat := [4]
abbrev selvageref10_old.X (w0 : Base) (n : Nat) : XT := xr (cx w0) 11 selvageref10_old.lv n
def selvageref10_old.n4 (X : XT) (w0 : Base) (n : Nat) (R : AV → Store → Prop) (σ : Store) (t2 : Bool) : Prop :=
  X (cAt selvageref10_old.code 4) 4 [(2, (.pv (.bool t2)))] σ (finQ (cx w0) Tryz.f38 n R)
def selvageref10_old.b4 (X : XT) (w0 : Base) (n : Nat) (R : AV → Store → Prop) (σ : Store) (t2 : Bool) : Prop :=
  pcodeX (cx w0) 11 selvageref10_old.lv n selvageref10_old.cuts X (cAt selvageref10_old.code 4) 4 [(2, (.pv (.bool t2)))] σ (finQ (cx w0) Tryz.f38 n R)
def selvageref10_old.b0 (X : XT) (w0 : Base) (n : Nat) (R : AV → Store → Prop) (σ : Store) (r : AV) : Prop :=
  pcodeX (cx w0) 11 selvageref10_old.lv n selvageref10_old.cuts X selvageref10_old.code 0 (argsE 0 [r]) σ (finQ (cx w0) Tryz.f38 n R)
theorem selvageref10_old.b4_eq (X : XT) (w0 : Base) (n : Nat) (R : AV → Store → Prop) (σ : Store) (t2 : Bool) : selvageref10_old.b4 X w0 n R σ t2 = (
  FinK (cx w0) n (.pv (.bool t2)) σ R) := by kernel_rfl
theorem selvageref10_old.n4_in {w0 : Base} {n : Nat} {R : AV → Store → Prop} {σ : Store} {t2 : Bool} (h : selvageref10_old.b4 (selvageref10_old.X w0 n) w0 n R σ t2) : selvageref10_old.n4 (selvageref10_old.X w0 n) w0 n R σ t2 := xr_in (S := selvageref10_old.cuts) (by kernel_rfl) h
theorem selvageref10_old.b0_eq (X : XT) (w0 : Base) (n : Nat) (R : AV → Store → Prop) (σ : Store) (r : AV) : selvageref10_old.b0 X w0 n R σ r = (
  ((AV.cells r).all AV.one = true ∧ (opt (aFieldAddr tabS ti61.td (.ptr (List.length σ) 0) 0) fun t3 => opt (aLoad (σ ++ [.cells 61 (AV.cells r)]) ti3 t3) fun t4 => isI .i64 t4 fun t4_1 => condB ((t4_1 : Int) == 1) (selvageref10_old.n4 X w0 n R (σ ++ [.cells 61 (AV.cells r)]) true) (opt (aFieldAddr tabS ti61.td (.ptr (List.length σ) 0) 0) fun t7 => opt (aLoad (σ ++ [.cells 61 (AV.cells r)]) ti3 t7) fun t8 => isI .i64 t8 fun t8_1 => selvageref10_old.n4 X w0 n R (σ ++ [.cells 61 (AV.cells r)]) ((t8_1 : Int) == 2))))) := by kernel_rfl
theorem selvageref10_old.ok (w0 : Base) : FOK (cx w0) selvageref10_old.id selvageref10_old.fe := ⟨Tryz.func38, by kernel_rfl, by kernel_rfl⟩
theorem selvageref10_old.calls {w0 : Base} {R : AV → Store → Prop} {σ : Store} {r : AV} (h : selvageref10_old.b0 (selvageref10_old.X w0 (List.length σ)) w0 (List.length σ) R σ r) : SCalls (cx w0) selvageref10_old.id [r] σ R :=
  xr_enter (cxOK w0) (x := selvageref10_old.fe) (S := selvageref10_old.cuts) (selvageref10_old.ok w0) (by kernel_rfl) h
/-! ### selvage/selvageref10.fresh -/
def selvageref10_fresh.lvs : List (List Nat) := [[0], [0], [1], [1], [2]]
def selvageref10_fresh.lv : Nat → List Nat := lvOf selvageref10_fresh.lvs
noncomputable def selvageref10_fresh.code : Code := bodyOf Tryz.f39
noncomputable def selvageref10_fresh.fe : FE := ⟨Tryz.f39, selvageref10_fresh.code, selvageref10_fresh.lv⟩
def selvageref10_fresh.cuts : List Nat := [4]
abbrev selvageref10_fresh.X (w0 : Base) (n : Nat) : XT := xr (cx w0) 11 selvageref10_fresh.lv n
def selvageref10_fresh.n4 (X : XT) (w0 : Base) (n : Nat) (R : AV → Store → Prop) (σ : Store) (t2 : Bool) : Prop :=
  X (cAt selvageref10_fresh.code 4) 4 [(2, (.pv (.bool t2)))] σ (finQ (cx w0) Tryz.f39 n R)
def selvageref10_fresh.b4 (X : XT) (w0 : Base) (n : Nat) (R : AV → Store → Prop) (σ : Store) (t2 : Bool) : Prop :=
  pcodeX (cx w0) 11 selvageref10_fresh.lv n selvageref10_fresh.cuts X (cAt selvageref10_fresh.code 4) 4 [(2, (.pv (.bool t2)))] σ (finQ (cx w0) Tryz.f39 n R)
def selvageref10_fresh.b0 (X : XT) (w0 : Base) (n : Nat) (R : AV → Store → Prop) (σ : Store) (r : AV) : Prop :=
  pcodeX (cx w0) 11 selvageref10_fresh.lv n selvageref10_fresh.cuts X selvageref10_fresh.code 0 (argsE 0 [r]) σ (finQ (cx w0) Tryz.f39 n R)
theorem selvageref10_fresh.b4_eq (X : XT) (w0 : Base) (n : Nat) (R : AV → Store → Prop) (σ : Store) (t2 : Bool) : selvageref10_fresh.b4 X w0 n R σ t2 = (
  FinK (cx w0) n (.pv (.bool t2)) σ R) := by kernel_rfl
theorem selvageref10_fresh.n4_in {w0 : Base} {n : Nat} {R : AV → Store → Prop} {σ : Store} {t2 : Bool} (h : selvageref10_fresh.b4 (selvageref10_fresh.X w0 n) w0 n R σ t2) : selvageref10_fresh.n4 (selvageref10_fresh.X w0 n) w0 n R σ t2 := xr_in (S := selvageref10_fresh.cuts) (by kernel_rfl) h
theorem selvageref10_fresh.b0_eq (X : XT) (w0 : Base) (n : Nat) (R : AV → Store → Prop) (σ : Store) (r : AV) : selvageref10_fresh.b0 X w0 n R σ r = (
  ((AV.cells r).all AV.one = true ∧ (opt (aFieldAddr tabS ti61.td (.ptr (List.length σ) 0) 0) fun t3 => opt (aLoad (σ ++ [.cells 61 (AV.cells r)]) ti3 t3) fun t4 => isI .i64 t4 fun t4_1 => condB ((t4_1 : Int) == 1) (selvageref10_fresh.n4 X w0 n R (σ ++ [.cells 61 (AV.cells r)]) true) (opt (aFieldAddr tabS ti61.td (.ptr (List.length σ) 0) 0) fun t7 => opt (aLoad (σ ++ [.cells 61 (AV.cells r)]) ti3 t7) fun t8 => isI .i64 t8 fun t8_1 => selvageref10_fresh.n4 X w0 n R (σ ++ [.cells 61 (AV.cells r)]) ((t8_1 : Int) == 3))))) := by kernel_rfl
theorem selvageref10_fresh.ok (w0 : Base) : FOK (cx w0) selvageref10_fresh.id selvageref10_fresh.fe := ⟨Tryz.func39, by kernel_rfl, by kernel_rfl⟩
theorem selvageref10_fresh.calls {w0 : Base} {R : AV → Store → Prop} {σ : Store} {r : AV} (h : selvageref10_fresh.b0 (selvageref10_fresh.X w0 (List.length σ)) w0 (List.length σ) R σ r) : SCalls (cx w0) selvageref10_fresh.id [r] σ R :=
  xr_enter (cxOK w0) (x := selvageref10_fresh.fe) (S := selvageref10_fresh.cuts) (selvageref10_fresh.ok w0) (by kernel_rfl) h
/-! ### selvage/selvageref01.Whole -/
def selvageref01_Whole.lvs : List (List Nat) := [[0], [0], [0], [0], [2]]
def selvageref01_Whole.lv : Nat → List Nat := lvOf selvageref01_Whole.lvs
noncomputable def selvageref01_Whole.code : Code := bodyOf Tryz.f11
noncomputable def selvageref01_Whole.fe : FE := ⟨Tryz.f11, selvageref01_Whole.code, selvageref01_Whole.lv⟩
def selvageref01_Whole.cuts : List Nat := [4]
abbrev selvageref01_Whole.X (w0 : Base) (n : Nat) : XT := xr (cx w0) 14 selvageref01_Whole.lv n
def selvageref01_Whole.n4 (X : XT) (w0 : Base) (n : Nat) (R : AV → Store → Prop) (σ : Store) (t2 : Bool) : Prop :=
  X (cAt selvageref01_Whole.code 4) 4 [(2, (.pv (.bool t2)))] σ (finQ (cx w0) Tryz.f11 n R)
def selvageref01_Whole.b4 (X : XT) (w0 : Base) (n : Nat) (R : AV → Store → Prop) (σ : Store) (t2 : Bool) : Prop :=
  pcodeX (cx w0) 14 selvageref01_Whole.lv n selvageref01_Whole.cuts X (cAt selvageref01_Whole.code 4) 4 [(2, (.pv (.bool t2)))] σ (finQ (cx w0) Tryz.f11 n R)
def selvageref01_Whole.b0 (X : XT) (w0 : Base) (n : Nat) (R : AV → Store → Prop) (σ : Store) (line : List UInt8) : Prop :=
  pcodeX (cx w0) 14 selvageref01_Whole.lv n selvageref01_Whole.cuts X selvageref01_Whole.code 0 (argsE 0 [(.pv (.str line))]) σ (finQ (cx w0) Tryz.f11 n R)
theorem selvageref01_Whole.b4_eq (X : XT) (w0 : Base) (n : Nat) (R : AV → Store → Prop) (σ : Store) (t2 : Bool) : selvageref01_Whole.b4 X w0 n R σ t2 = (
  FinK (cx w0) n (.pv (.bool t2)) σ R) := by kernel_rfl
theorem selvageref01_Whole.n4_in {w0 : Base} {n : Nat} {R : AV → Store → Prop} {σ : Store} {t2 : Bool} (h : selvageref01_Whole.b4 (selvageref01_Whole.X w0 n) w0 n R σ t2) : selvageref01_Whole.n4 (selvageref01_Whole.X w0 n) w0 n R σ t2 := xr_in (S := selvageref01_Whole.cuts) (by kernel_rfl) h
theorem selvageref01_Whole.b0_eq (X : XT) (w0 : Base) (n : Nat) (R : AV → Store → Prop) (σ : Store) (line : List UInt8) : selvageref01_Whole.b0 X w0 n R σ line = (
  condB (decide (((List.length (line : List UInt8) : Int) : Int) > 0)) (opt (aIndex tabS ti9.td (.pv (.str line)) (IntKind.wrap .i64 ((List.length (line : List UInt8) : Int) - 1))) fun t11 => isI .u8 t11 fun t11_1 => selvageref01_Whole.n4 X w0 n R σ ((t11_1 : Int) == 10)) (selvageref01_Whole.n4 X w0 n R σ false)) := by kernel_rfl
theorem selvageref01_Whole.ok (w0 : Base) : FOK (cx w0) selvageref01_Whole.id selvageref01_Whole.fe := ⟨Tryz.func11, by kernel_rfl, by kernel_rfl⟩
theorem selvageref01_Whole.calls {w0 : Base} {R : AV → Store → Prop} {σ : Store} {line : List UInt8} (h : selvageref01_Whole.b0 (selvageref01_Whole.X w0 (List.length σ)) w0 (List.length σ) R σ line) : SCalls (cx w0) selvageref01_Whole.id [(.pv (.str line))] σ R :=
  xr_enter (cxOK w0) (x := selvageref01_Whole.fe) (S := selvageref01_Whole.cuts) (selvageref01_Whole.ok w0) (by kernel_rfl) h
/-! ### selvage/selvageref10.Counts -/
def selvageref10_Counts.lvs : List (List Nat) := [[0], [0], [0], [0], [0, 4, 5], [0, 4, 5], [0, 4, 5], [0, 4, 5, 6], [0, 4, 5, 6], [0, 4, 5, 6], [0, 4, 5, 6], [0, 4, 5, 6], [0, 4, 5, 6, 10], [0, 4, 5, 6], [4, 5], [0, 4, 5, 6], [0, 4, 5, 6], [0, 4, 5, 6], [0, 4, 5, 6], [0, 4, 5, 6], [0, 4, 5, 6, 17], [0, 4, 5, 6], [0, 4, 5, 6], [0, 4, 5, 6], [0, 4, 5, 6], [0, 4, 5, 6, 24], [0, 4, 5, 6], [0, 4, 5, 6], [0, 4, 5, 6], [4, 5], [4, 5], [2, 3]]
def selvageref10_Counts.lv : Nat → List Nat := lvOf selvageref10_Counts.lvs
noncomputable def selvageref10_Counts.code : Code := bodyOf Tryz.f22
noncomputable def selvageref10_Counts.fe : FE := ⟨Tryz.f22, selvageref10_Counts.code, selvageref10_Counts.lv⟩
def selvageref10_Counts.cuts : List Nat := [9, 23, 28, 29]
abbrev selvageref10_Counts.X (w0 : Base) (n : Nat) : XT := xr (cx w0) 29 selvageref10_Counts.lv n
def selvageref10_Counts.q5 (X : XT) (w0 : Base) (n : Nat) (R : AV → Store → Prop) : Exit → Env → Store → Prop := thenQ (fun env σ => X (cAt selvageref10_Counts.code 29) 29 (prune (selvageref10_Counts.lv 29) env) σ (finQ (cx w0) Tryz.f22 n R)) (finQ (cx w0) Tryz.f22 n R)
def selvageref10_Counts.q8 (X : XT) (w0 : Base) (n : Nat) (R : AV → Store → Prop) : Exit → Env → Store → Prop := blockQ 0 (selvageref10_Counts.q5 X w0 n R)
def selvageref10_Counts.q9 (X : XT) (w0 : Base) (n : Nat) (R : AV → Store → Prop) : Exit → Env → Store → Prop := thenQ (fun env σ => X (cAt selvageref10_Counts.code 8) 8 (prune (selvageref10_Counts.lv 8) env) σ (selvageref10_Counts.q8 X w0 n R)) (selvageref10_Counts.q8 X w0 n R)
def selvageref10_Counts.q16 (X : XT) (w0 : Base) (n : Nat) (R : AV → Store → Prop) : Exit → Env → Store → Prop := thenQ (fun env σ => X (cAt selvageref10_Counts.code 28) 28 (prune (selvageref10_Counts.lv 28) env) σ (selvageref10_Counts.q9 X w0 n R)) (selvageref10_Counts.q9 X w0 n R)
def selvageref10_Counts.q17 (X : XT) (w0 : Base) (n : Nat) (R : AV → Store → Prop) : Exit → Env → Store → Prop := blockQ 1 (selvageref10_Counts.q16 X w0 n R)
def selvageref10_Counts.n8 (X : XT) (w0 : Base) (n : Nat) (R : AV → Store → Prop) (σ : Store) (l_ : AV) (n_ : Int) (m : Int) (i : Int) : Prop :=
  X (cAt selvageref10_Counts.code 8) 8 [(0, l_), (4, (.pv (.int .i64 n_))), (5, (.pv (.int .i64 m))), (6, (.pv (.int .i64 i)))] σ (selvageref10_Counts.q8 X w0 n R)
def selvageref10_Counts.n9 (X : XT) (w0 : Base) (n : Nat) (R : AV → Store → Prop) (σ : Store) (l_ : AV) (n_ : Int) (m : Int) (i : Int) : Prop :=
  X (cAt selvageref10_Counts.code 9) 9 [(0, l_), (4, (.pv (.int .i64 n_))), (5, (.pv (.int .i64 m))), (6, (.pv (.int .i64 i)))] σ (selvageref10_Counts.q9 X w0 n R)
def selvageref10_Counts.b9 (X : XT) (w0 : Base) (n : Nat) (R : AV → Store → Prop) (σ : Store) (l_ : AV) (n_ : Int) (m : Int) (i : Int) : Prop :=
  pcodeX (cx w0) 29 selvageref10_Counts.lv n selvageref10_Counts.cuts X (cAt selvageref10_Counts.code 9) 9 [(0, l_), (4, (.pv (.int .i64 n_))), (5, (.pv (.int .i64 m))), (6, (.pv (.int .i64 i)))] σ (selvageref10_Counts.q9 X w0 n R)
def selvageref10_Counts.n23 (X : XT) (w0 : Base) (n : Nat) (R : AV → Store → Prop) (σ : Store) (l_ : AV) (n_ : Int) (m : Int) (i : Int) : Prop :=
  X (cAt selvageref10_Counts.code 23) 23 [(0, l_), (4, (.pv (.int .i64 n_))), (5, (.pv (.int .i64 m))), (6, (.pv (.int .i64 i)))] σ (selvageref10_Counts.q17 X w0 n R)
def selvageref10_Counts.b23 (X : XT) (w0 : Base) (n : Nat) (R : AV → Store → Prop) (σ : Store) (l_ : AV) (n_ : Int) (m : Int) (i : Int) : Prop :=
  pcodeX (cx w0) 29 selvageref10_Counts.lv n selvageref10_Counts.cuts X (cAt selvageref10_Counts.code 23) 23 [(0, l_), (4, (.pv (.int .i64 n_))), (5, (.pv (.int .i64 m))), (6, (.pv (.int .i64 i)))] σ (selvageref10_Counts.q17 X w0 n R)
def selvageref10_Counts.n28 (X : XT) (w0 : Base) (n : Nat) (R : AV → Store → Prop) (σ : Store) (l_ : AV) (n_ : Int) (m : Int) (i : Int) : Prop :=
  X (cAt selvageref10_Counts.code 28) 28 [(0, l_), (4, (.pv (.int .i64 n_))), (5, (.pv (.int .i64 m))), (6, (.pv (.int .i64 i)))] σ (selvageref10_Counts.q9 X w0 n R)
def selvageref10_Counts.b28 (X : XT) (w0 : Base) (n : Nat) (R : AV → Store → Prop) (σ : Store) (l_ : AV) (n_ : Int) (m : Int) (i : Int) : Prop :=
  pcodeX (cx w0) 29 selvageref10_Counts.lv n selvageref10_Counts.cuts X (cAt selvageref10_Counts.code 28) 28 [(0, l_), (4, (.pv (.int .i64 n_))), (5, (.pv (.int .i64 m))), (6, (.pv (.int .i64 i)))] σ (selvageref10_Counts.q9 X w0 n R)
def selvageref10_Counts.n29 (X : XT) (w0 : Base) (n : Nat) (R : AV → Store → Prop) (σ : Store) (n_ : Int) (m : Int) : Prop :=
  X (cAt selvageref10_Counts.code 29) 29 [(4, (.pv (.int .i64 n_))), (5, (.pv (.int .i64 m)))] σ (finQ (cx w0) Tryz.f22 n R)
def selvageref10_Counts.b29 (X : XT) (w0 : Base) (n : Nat) (R : AV → Store → Prop) (σ : Store) (n_ : Int) (m : Int) : Prop :=
  pcodeX (cx w0) 29 selvageref10_Counts.lv n selvageref10_Counts.cuts X (cAt selvageref10_Counts.code 29) 29 [(4, (.pv (.int .i64 n_))), (5, (.pv (.int .i64 m)))] σ (finQ (cx w0) Tryz.f22 n R)
def selvageref10_Counts.b0 (X : XT) (w0 : Base) (n : Nat) (R : AV → Store → Prop) (σ : Store) (l_ : AV) : Prop :=
  pcodeX (cx w0) 29 selvageref10_Counts.lv n selvageref10_Counts.cuts X selvageref10_Counts.code 0 (argsE 0 [l_]) σ (finQ (cx w0) Tryz.f22 n R)
theorem selvageref10_Counts.n8_in {w0 : Base} {n : Nat} {R : AV → Store → Prop} {σ : Store} {l_ : AV} {n_ : Int} {m : Int} {i : Int} (h : selvageref10_Counts.b9 (selvageref10_Counts.X w0 n) w0 n R σ l_ n_ m i) : selvageref10_Counts.n8 (selvageref10_Counts.X w0 n) w0 n R σ l_ n_ m i := xr_round (cxOK w0) (S := selvageref10_Counts.cuts) (by kernel_rfl : cAt selvageref10_Counts.code 8 = .loop (cAt selvageref10_Counts.code 9)) h
theorem selvageref10_Counts.n8_weak {w0 : Base} {n : Nat} {R : AV → Store → Prop} {σ τ : Store} {l_ : AV} {n_ : Int} {m : Int} {i : Int} {l_' : AV} {n_' : Int} {m' : Int} {i' : Int} (e : EWeak (cx w0) n [(0, l_), (4, (.pv (.int .i64 n_))), (5, (.pv (.int .i64 m))), (6, (.pv (.int .i64 i)))] σ [(0, l_'), (4, (.pv (.int .i64 n_'))), (5, (.pv (.int .i64 m'))), (6, (.pv (.int .i64 i')))] τ) (h : selvageref10_Counts.n8 (selvageref10_Counts.X w0 n) w0 n R τ l_' n_' m' i') : selvageref10_Counts.n8 (selvageref10_Counts.X w0 n) w0 n R σ l_ n_ m i := xr_weak (L := selvageref10_Counts.lv) (k := 8) (by kernel_rfl : cAt selvageref10_Counts.code 8 = .loop (cAt selvageref10_Counts.code 9)) e h
theorem selvageref10_Counts.b9_eq (X : XT) (w0 : Base) (n : Nat) (R : AV → Store → Prop) (σ : Store) (l_ : AV) (n_ : Int) (m : Int) (i : Int) : selvageref10_Counts.b9 X w0 n R σ l_ n_ m i = (
  opt (aLen ti49.td l_) fun t9 => isI .i64 t9 fun t9_1 => condB (decide ((i : Int) < t9_1)) (opt (aIndexAddr σ tabS ti49.td l_ i) fun t15 => opt (aLoad σ ti61 t15) fun t16 => SCalls (cx w0) selvageref10_old.id [t16] σ fun r σ' => isB r fun t17 => condB t17 (selvageref10_Counts.n23 X w0 n R σ' l_ (IntKind.wrap .i64 (n_ + 1)) m i) (selvageref10_Counts.n23 X w0 n R σ' l_ n_ m i)) (selvageref10_Counts.n29 X w0 n R σ n_ m)) := by kernel_rfl
theorem selvageref10_Counts.n9_in {w0 : Base} {n : Nat} {R : AV → Store → Prop} {σ : Store} {l_ : AV} {n_ : Int} {m : Int} {i : Int} (h : selvageref10_Counts.b9 (selvageref10_Counts.X w0 n) w0 n R σ l_ n_ m i) : selvageref10_Counts.n9 (selvageref10_Counts.X w0 n) w0 n R σ l_ n_ m i := xr_in (S := selvageref10_Counts.cuts) (by kernel_rfl) h
theorem selvageref10_Counts.b23_eq (X : XT) (w0 : Base) (n : Nat) (R : AV → Store → Prop) (σ : Store) (l_ : AV) (n_ : Int) (m : Int) (i : Int) : selvageref10_Counts.b23 X w0 n R σ l_ n_ m i = (
  opt (aIndexAddr σ tabS ti49.td l_ i) fun t22 => opt (aLoad σ ti61 t22) fun t23 => SCalls (cx w0) selvageref10_fresh.id [t23] σ fun r σ' => isB r fun t24 => condB t24 (selvageref10_Counts.n28 X w0 n R σ' l_ n_ (IntKind.wrap .i64 (m + 1)) i) (selvageref10_Counts.n28 X w0 n R σ' l_ n_ m i)) := by kernel_rfl
theorem selvageref10_Counts.n23_in {w0 : Base} {n : Nat} {R : AV → Store → Prop} {σ : Store} {l_ : AV} {n_ : Int} {m : Int} {i : Int} (h : selvageref10_Counts.b23 (selvageref10_Counts.X w0 n) w0 n R σ l_ n_ m i) : selvageref10_Counts.n23 (selvageref10_Counts.X w0 n) w0 n R σ l_ n_ m i := xr_in (S := selvageref10_Counts.cuts) (by kernel_rfl) h
theorem selvageref10_Counts.b28_eq (X : XT) (w0 : Base) (n : Nat) (R : AV → Store → Prop) (σ : Store) (l_ : AV) (n_ : Int) (m : Int) (i : Int) : selvageref10_Counts.b28 X w0 n R σ l_ n_ m i = (
  selvageref10_Counts.n8 X w0 n R σ l_ n_ m (IntKind.wrap .i64 (i + 1))) := by kernel_rfl
theorem selvageref10_Counts.n28_in {w0 : Base} {n : Nat} {R : AV → Store → Prop} {σ : Store} {l_ : AV} {n_ : Int} {m : Int} {i : Int} (h : selvageref10_Counts.b28 (selvageref10_Counts.X w0 n) w0 n R σ l_ n_ m i) : selvageref10_Counts.n28 (selvageref10_Counts.X w0 n) w0 n R σ l_ n_ m i := xr_in (S := selvageref10_Counts.cuts) (by kernel_rfl) h
theorem selvageref10_Counts.b29_eq (X : XT) (w0 : Base) (n : Nat) (R : AV → Store → Prop) (σ : Store) (n_ : Int) (m : Int) : selvageref10_Counts.b29 X w0 n R σ n_ m = (
  FinK (cx w0) n (.tup [(.pv (.int .i64 n_)), (.pv (.int .i64 m))]) σ R) := by kernel_rfl
theorem selvageref10_Counts.n29_in {w0 : Base} {n : Nat} {R : AV → Store → Prop} {σ : Store} {n_ : Int} {m : Int} (h : selvageref10_Counts.b29 (selvageref10_Counts.X w0 n) w0 n R σ n_ m) : selvageref10_Counts.n29 (selvageref10_Counts.X w0 n) w0 n R σ n_ m := xr_in (S := selvageref10_Counts.cuts) (by kernel_rfl) h
theorem selvageref10_Counts.b0_eq (X : XT) (w0 : Base) (n : Nat) (R : AV → Store → Prop) (σ : Store) (l_ : AV) : selvageref10_Counts.b0 X w0 n R σ l_ = (
  selvageref10_Counts.n8 X w0 n R σ l_ 0 0 0) := by kernel_rfl
theorem selvageref10_Counts.ok (w0 : Base) : FOK (cx w0) selvageref10_Counts.id selvageref10_Counts.fe := ⟨Tryz.func22, by kernel_rfl, by kernel_rfl⟩
theorem selvageref10_Counts.calls {w0 : Base} {R : AV → Store → Prop} {σ : Store} {l_ : AV} (h : selvageref10_Counts.b0 (selvageref10_Counts.X w0 (List.length σ)) w0 (List.length σ) R σ l_) : SCalls (cx w0) selvageref10_Counts.id [l_] σ R :=
  xr_enter (cxOK w0) (x := selvageref10_Counts.fe) (S := selvageref10_Counts.cuts) (selvageref10_Counts.ok w0) (by kernel_rfl) h
end Go.Sv
