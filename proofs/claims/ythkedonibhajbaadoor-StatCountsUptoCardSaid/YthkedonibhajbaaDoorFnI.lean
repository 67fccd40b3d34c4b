/- What the code of Go functions comes to over abstract stores, piece by piece; each equation by the kernel. Printed by a program of this session. -/
import Derived.Test.YthkedonibhajbaaDoorSvT
import Derived.KernelRfl
set_option linter.unusedVariables false
set_option maxRecDepth 100000
namespace Go.Sv
open Go Go.Proofs
/-! ### selvage/selvagelaw16.StatCounts -/
def selvagelaw16_StatCounts.lvs : List (List Nat) := [[0, 1], [0, 1], [0, 1], [0, 1], [0, 1, 5, 6], [0, 1, 5, 6], [5, 6, 7, 8], [5, 6, 7, 8], [4]]
def selvagelaw16_StatCounts.lv : Nat → List Nat := lvOf selvagelaw16_StatCounts.lvs
noncomputable def selvagelaw16_StatCounts.code : Code := bodyOf Tryd.f7
noncomputable def selvagelaw16_StatCounts.fe : FE := ⟨Tryd.f7, selvagelaw16_StatCounts.code, selvagelaw16_StatCounts.lv⟩
def selvagelaw16_StatCounts.cuts : List Nat := [8]
abbrev selvagelaw16_StatCounts.X (w0 : Base) (n : Nat) : XT := xr (cx w0) 49 selvagelaw16_StatCounts.lv n
def selvagelaw16_StatCounts.n8 (X : XT) (w0 : Base) (n : Nat) (R : AV → Store → Prop) (σ : Store) (t4 : Bool) : Prop :=
  X (cAt selvagelaw16_StatCounts.code 8) 8 [(4, (.pv (.bool t4)))] σ (finQ (cx w0) Tryd.f7 n R)
def selvagelaw16_StatCounts.b8 (X : XT) (w0 : Base) (n : Nat) (R : AV → Store → Prop) (σ : Store) (t4 : Bool) : Prop :=
  pcodeX (cx w0) 49 selvagelaw16_StatCounts.lv n selvagelaw16_StatCounts.cuts X (cAt selvagelaw16_StatCounts.code 8) 8 [(4, (.pv (.bool t4)))] σ (finQ (cx w0) Tryd.f7 n R)
def selvagelaw16_StatCounts.b0 (X : XT) (w0 : Base) (n : Nat) (R : AV → Store → Prop) (σ : Store) (name : List UInt8) (l_ : AV) : Prop :=
  pcodeX (cx w0) 49 selvagelaw16_StatCounts.lv n selvagelaw16_StatCounts.cuts X selvagelaw16_StatCounts.code 0 (argsE 0 [(.pv (.str name)), l_]) σ (finQ (cx w0) Tryd.f7 n R)
theorem selvagelaw16_StatCounts.b8_eq (X : XT) (w0 : Base) (n : Nat) (R : AV → Store → Prop) (σ : Store) (t4 : Bool) : selvagelaw16_StatCounts.b8 X w0 n R σ t4 = (
  FinK (cx w0) n (.pv (.bool t4)) σ R) := by kernel_rfl
theorem selvagelaw16_StatCounts.n8_in {w0 : Base} {n : Nat} {R : AV → Store → Prop} {σ : Store} {t4 : Bool} (h : selvagelaw16_StatCounts.b8 (selvagelaw16_StatCounts.X w0 n) w0 n R σ t4) : selvagelaw16_StatCounts.n8 (selvagelaw16_StatCounts.X w0 n) w0 n R σ t4 := xr_in (S := selvagelaw16_StatCounts.cuts) (by kernel_rfl) h
theorem selvagelaw16_StatCounts.b0_eq (X : XT) (w0 : Base) (n : Nat) (R : AV → Store → Prop) (σ : Store) (name : List UInt8) (l_ : AV) : selvagelaw16_StatCounts.b0 X w0 n R σ name l_ = (
  SCalls (cx w0) stat_Of.id [(.pv (.str name)), l_] σ fun r σ' => isTup r fun vs => opt ((vs)[0]?) fun t13 => isTup r fun vs_1 => opt ((vs_1)[1]?) fun t14 => opt (aStore (σ' ++ [.cells 48 (AV.ofValue ti48.zero).cells]) ti48 (.ptr (List.length σ') 0) t13) fun σ'_1 => SCalls (cx w0) selvageref16_Of.id [(.pv (.str name)), l_] σ'_1 fun r_1 σ'_2 => isTup r_1 fun vs_2 => opt ((vs_2)[0]?) fun t19 => isTup r_1 fun vs_3 => opt ((vs_3)[1]?) fun t20 => isI .i64 t20 fun t20_1 => opt (aStore (σ'_2 ++ [.cells 47 (AV.ofValue ti47.zero).cells]) ti47 (.ptr (List.length σ'_2) 0) t19) fun σ'_3 => opt (aFieldAddr tabS ti48.td (.ptr (List.length σ') 0) 0) fun t21 => opt (aLoad σ'_3 ti9 t21) fun t22 => isS t22 fun t22_1 => opt (aFieldAddr tabS ti47.td (.ptr (List.length σ'_2) 0) 0) fun t23 => opt (aLoad σ'_3 ti9 t23) fun t24 => isS t24 fun t24_1 => condB ((t22_1 : List UInt8) == t24_1) (opt (aFieldAddr tabS ti48.td (.ptr (List.length σ') 0) 1) fun t27 => opt (aLoad σ'_3 ti3 t27) fun t28 => isI .i64 t28 fun t28_1 => opt (aFieldAddr tabS ti47.td (.ptr (List.length σ'_2) 0) 1) fun t29 => opt (aLoad σ'_3 ti3 t29) fun t30 => isI .i64 t30 fun t30_1 => condB ((t28_1 : Int) == t30_1) (opt (aFieldAddr tabS ti48.td (.ptr (List.length σ') 0) 2) fun t34 => opt (aLoad σ'_3 ti3 t34) fun t35 => isI .i64 t35 fun t35_1 => opt (aFieldAddr tabS ti47.td (.ptr (List.length σ'_2) 0) 2) fun t36 => opt (aLoad σ'_3 ti3 t36) fun t37 => isI .i64 t37 fun t37_1 => condB ((t35_1 : Int) == t37_1) (SCalls (cx w0) selvagelaw16_num.id [t14] σ'_3 fun r_2 σ'_4 => isI .i64 r_2 fun t42 => condB ((t42 : Int) == t20_1) (SCalls (cx w0) selvagelaw16_works.id [] σ'_4 fun r_3 σ'_5 => isB r_3 fun t47 => selvagelaw16_StatCounts.n8 X w0 n R σ'_5 t47) (selvagelaw16_StatCounts.n8 X w0 n R σ'_4 false)) (selvagelaw16_StatCounts.n8 X w0 n R σ'_3 false)) (selvagelaw16_StatCounts.n8 X w0 n R σ'_3 false)) (selvagelaw16_StatCounts.n8 X w0 n R σ'_3 false)) := by kernel_rfl
theorem selvagelaw16_StatCounts.ok (w0 : Base) : FOK (cx w0) selvagelaw16_StatCounts.id selvagelaw16_StatCounts.fe := ⟨Tryd.func7, by kernel_rfl, by kernel_rfl⟩
theorem selvagelaw16_StatCounts.calls {w0 : Base} {R : AV → Store → Prop} {σ : Store} {name : List UInt8} {l_ : AV} (h : selvagelaw16_StatCounts.b0 (selvagelaw16_StatCounts.X w0 (List.length σ)) w0 (List.length σ) R σ name l_) : SCalls (cx w0) selvagelaw16_StatCounts.id [(.pv (.str name)), l_] σ R :=
  xr_enter (cxOK w0) (x := selvagelaw16_StatCounts.fe) (S := selvagelaw16_StatCounts.cuts) (selvagelaw16_StatCounts.ok w0) (by kernel_rfl) h
end Go.Sv
