/- What the code of Go functions comes to over abstract stores, piece by piece; each equation by the kernel. Printed by a program of this session. -/
import Derived.Test.YtjonnhjaiiingaaGreatDoorSvT
import Derived.KernelRfl
set_option linter.unusedVariables false
set_option maxRecDepth 100000
namespace Go.Sv
open Go Go.Proofs
/-! ### selvage/quote.Needs -/
def quote_Needs.lvs : List (List Nat) := [[0], [0], [0], [0], [0], [0, 6], [], [], [2], [0], [0], [0], [0], [0, 8, 9], [0, 8, 9], [0, 8, 9], [0, 8, 9], [0, 8, 9, 10], [0, 8, 9, 10], [0, 8, 9], [], [0, 8, 9], [0, 8, 9], [0, 8, 9], [0, 8, 9], [0, 3, 8, 9], [0, 3, 8, 9], [0, 4, 8, 9], [0, 4, 8, 9], [0, 8, 9, 28], [], [], [2], [0, 8, 9], [0, 8, 9], [], [], [2]]
def quote_Needs.lv : Nat → List Nat := lvOf quote_Needs.lvs
noncomputable def quote_Needs.code : Code := bodyOf Tryz.f57
noncomputable def quote_Needs.fe : FE := ⟨Tryz.f57, quote_Needs.code, quote_Needs.lv⟩
def quote_Needs.cuts : List Nat := [15, 29, 35]
abbrev quote_Needs.X (w0 : Base) (n : Nat) : XT := xr (cx w0) 30 quote_Needs.lv n
def quote_Needs.q11 (X : XT) (w0 : Base) (n : Nat) (R : AV → Store → Prop) : Exit → Env → Store → Prop := thenQ (fun env σ => X (cAt quote_Needs.code 35) 35 (prune (quote_Needs.lv 35) env) σ (finQ (cx w0) Tryz.f57 n R)) (finQ (cx w0) Tryz.f57 n R)
def quote_Needs.q14 (X : XT) (w0 : Base) (n : Nat) (R : AV → Store → Prop) : Exit → Env → Store → Prop := blockQ 0 (quote_Needs.q11 X w0 n R)
def quote_Needs.q15 (X : XT) (w0 : Base) (n : Nat) (R : AV → Store → Prop) : Exit → Env → Store → Prop := thenQ (fun env σ => X (cAt quote_Needs.code 14) 14 (prune (quote_Needs.lv 14) env) σ (quote_Needs.q14 X w0 n R)) (quote_Needs.q14 X w0 n R)
def quote_Needs.q22 (X : XT) (w0 : Base) (n : Nat) (R : AV → Store → Prop) : Exit → Env → Store → Prop := thenQ (fun env σ => pcodeX (cx w0) 30 quote_Needs.lv n quote_Needs.cuts X (cAt quote_Needs.code 34) 34 (prune (quote_Needs.lv 34) env) σ (quote_Needs.q15 X w0 n R)) (quote_Needs.q15 X w0 n R)
def quote_Needs.q23 (X : XT) (w0 : Base) (n : Nat) (R : AV → Store → Prop) : Exit → Env → Store → Prop := blockQ 1 (quote_Needs.q22 X w0 n R)
def quote_Needs.n14 (X : XT) (w0 : Base) (n : Nat) (R : AV → Store → Prop) (σ : Store) (name : List UInt8) (t8 : Int) (t9 : Int) : Prop :=
  X (cAt quote_Needs.code 14) 14 [(0, (.pv (.str name))), (8, (.pv (.int .i64 t8))), (9, (.pv (.int .i64 t9)))] σ (quote_Needs.q14 X w0 n R)
def quote_Needs.n15 (X : XT) (w0 : Base) (n : Nat) (R : AV → Store → Prop) (σ : Store) (name : List UInt8) (t8 : Int) (t9 : Int) : Prop :=
  X (cAt quote_Needs.code 15) 15 [(0, (.pv (.str name))), (8, (.pv (.int .i64 t8))), (9, (.pv (.int .i64 t9)))] σ (quote_Needs.q15 X w0 n R)
def quote_Needs.b15 (X : XT) (w0 : Base) (n : Nat) (R : AV → Store → Prop) (σ : Store) (name : List UInt8) (t8 : Int) (t9 : Int) : Prop :=
  pcodeX (cx w0) 30 quote_Needs.lv n quote_Needs.cuts X (cAt quote_Needs.code 15) 15 [(0, (.pv (.str name))), (8, (.pv (.int .i64 t8))), (9, (.pv (.int .i64 t9)))] σ (quote_Needs.q15 X w0 n R)
def quote_Needs.n29 (X : XT) (w0 : Base) (n : Nat) (R : AV → Store → Prop) (σ : Store) (name : List UInt8) (t8 : Int) (t9 : Int) (t28 : Bool) : Prop :=
  X (cAt quote_Needs.code 29) 29 [(0, (.pv (.str name))), (8, (.pv (.int .i64 t8))), (9, (.pv (.int .i64 t9))), (28, (.pv (.bool t28)))] σ (quote_Needs.q23 X w0 n R)
def quote_Needs.b29 (X : XT) (w0 : Base) (n : Nat) (R : AV → Store → Prop) (σ : Store) (name : List UInt8) (t8 : Int) (t9 : Int) (t28 : Bool) : Prop :=
  pcodeX (cx w0) 30 quote_Needs.lv n quote_Needs.cuts X (cAt quote_Needs.code 29) 29 [(0, (.pv (.str name))), (8, (.pv (.int .i64 t8))), (9, (.pv (.int .i64 t9))), (28, (.pv (.bool t28)))] σ (quote_Needs.q23 X w0 n R)
def quote_Needs.n35 (X : XT) (w0 : Base) (n : Nat) (R : AV → Store → Prop) (σ : Store) : Prop :=
  X (cAt quote_Needs.code 35) 35 [] σ (finQ (cx w0) Tryz.f57 n R)
def quote_Needs.b35 (X : XT) (w0 : Base) (n : Nat) (R : AV → Store → Prop) (σ : Store) : Prop :=
  pcodeX (cx w0) 30 quote_Needs.lv n quote_Needs.cuts X (cAt quote_Needs.code 35) 35 [] σ (finQ (cx w0) Tryz.f57 n R)
def quote_Needs.b0 (X : XT) (w0 : Base) (n : Nat) (R : AV → Store → Prop) (σ : Store) (name : List UInt8) : Prop :=
  pcodeX (cx w0) 30 quote_Needs.lv n quote_Needs.cuts X quote_Needs.code 0 (argsE 0 [(.pv (.str name))]) σ (finQ (cx w0) Tryz.f57 n R)
theorem quote_Needs.n14_in {w0 : Base} {n : Nat} {R : AV → Store → Prop} {σ : Store} {name : List UInt8} {t8 : Int} {t9 : Int} (h : quote_Needs.b15 (quote_Needs.X w0 n) w0 n R σ name t8 t9) : quote_Needs.n14 (quote_Needs.X w0 n) w0 n R σ name t8 t9 := xr_round (cxOK w0) (S := quote_Needs.cuts) (by kernel_rfl : cAt quote_Needs.code 14 = .loop (cAt quote_Needs.code 15)) h
theorem quote_Needs.n14_weak {w0 : Base} {n : Nat} {R : AV → Store → Prop} {σ τ : Store} {name : List UInt8} {t8 : Int} {t9 : Int} {name' : List UInt8} {t8' : Int} {t9' : Int} (e : EWeak (cx w0) n [(0, (.pv (.str name))), (8, (.pv (.int .i64 t8))), (9, (.pv (.int .i64 t9)))] σ [(0, (.pv (.str name'))), (8, (.pv (.int .i64 t8'))), (9, (.pv (.int .i64 t9')))] τ) (h : quote_Needs.n14 (quote_Needs.X w0 n) w0 n R τ name' t8' t9') : quote_Needs.n14 (quote_Needs.X w0 n) w0 n R σ name t8 t9 := xr_weak (L := quote_Needs.lv) (k := 14) (by kernel_rfl : cAt quote_Needs.code 14 = .loop (cAt quote_Needs.code 15)) e h
theorem quote_Needs.b15_eq (X : XT) (w0 : Base) (n : Nat) (R : AV → Store → Prop) (σ : Store) (name : List UInt8) (t8 : Int) (t9 : Int) : quote_Needs.b15 X w0 n R σ name t8 t9 = (
  condB (decide ((t9 : Int) < t8)) (opt (aIndex tabS ti9.td (.pv (.str name)) t9) fun t14 => isI .u8 t14 fun t14_1 => condB (decide ((t14_1 : Int) < 33)) (quote_Needs.n29 X w0 n R σ name t8 t9 true) (condB (decide ((t14_1 : Int) ≥ 127)) (quote_Needs.n29 X w0 n R σ name t8 t9 true) (condB ((t14_1 : Int) == 34) (quote_Needs.n29 X w0 n R σ name t8 t9 true) (quote_Needs.n29 X w0 n R σ name t8 t9 ((t14_1 : Int) == 92))))) (quote_Needs.n35 X w0 n R σ)) := by kernel_rfl
theorem quote_Needs.n15_in {w0 : Base} {n : Nat} {R : AV → Store → Prop} {σ : Store} {name : List UInt8} {t8 : Int} {t9 : Int} (h : quote_Needs.b15 (quote_Needs.X w0 n) w0 n R σ name t8 t9) : quote_Needs.n15 (quote_Needs.X w0 n) w0 n R σ name t8 t9 := xr_in (S := quote_Needs.cuts) (by kernel_rfl) h
theorem quote_Needs.b29_eq (X : XT) (w0 : Base) (n : Nat) (R : AV → Store → Prop) (σ : Store) (name : List UInt8) (t8 : Int) (t9 : Int) (t28 : Bool) : quote_Needs.b29 X w0 n R σ name t8 t9 t28 = (
  condB t28 (FinK (cx w0) n (.pv (.bool true)) σ R) (quote_Needs.n14 X w0 n R σ name t8 (IntKind.wrap .i64 (t9 + 1)))) := by kernel_rfl
theorem quote_Needs.n29_in {w0 : Base} {n : Nat} {R : AV → Store → Prop} {σ : Store} {name : List UInt8} {t8 : Int} {t9 : Int} {t28 : Bool} (h : quote_Needs.b29 (quote_Needs.X w0 n) w0 n R σ name t8 t9 t28) : quote_Needs.n29 (quote_Needs.X w0 n) w0 n R σ name t8 t9 t28 := xr_in (S := quote_Needs.cuts) (by kernel_rfl) h
theorem quote_Needs.b35_eq (X : XT) (w0 : Base) (n : Nat) (R : AV → Store → Prop) (σ : Store) : quote_Needs.b35 X w0 n R σ = (
  FinK (cx w0) n (.pv (.bool false)) σ R) := by kernel_rfl
theorem quote_Needs.n35_in {w0 : Base} {n : Nat} {R : AV → Store → Prop} {σ : Store} (h : quote_Needs.b35 (quote_Needs.X w0 n) w0 n R σ) : quote_Needs.n35 (quote_Needs.X w0 n) w0 n R σ := xr_in (S := quote_Needs.cuts) (by kernel_rfl) h
theorem quote_Needs.b0_eq (X : XT) (w0 : Base) (n : Nat) (R : AV → Store → Prop) (σ : Store) (name : List UInt8) : quote_Needs.b0 X w0 n R σ name = (
  condB ((name : List UInt8) == []) (FinK (cx w0) n (.pv (.bool true)) σ R) (quote_Needs.n14 X w0 n R σ name (List.length (name : List UInt8) : Int) 0)) := by kernel_rfl
theorem quote_Needs.ok (w0 : Base) : FOK (cx w0) quote_Needs.id quote_Needs.fe := ⟨Tryz.func57, by kernel_rfl, by kernel_rfl⟩
theorem quote_Needs.calls {w0 : Base} {R : AV → Store → Prop} {σ : Store} {name : List UInt8} (h : quote_Needs.b0 (quote_Needs.X w0 (List.length σ)) w0 (List.length σ) R σ name) : SCalls (cx w0) quote_Needs.id [(.pv (.str name))] σ R :=
  xr_enter (cxOK w0) (x := quote_Needs.fe) (S := quote_Needs.cuts) (quote_Needs.ok w0) (by kernel_rfl) h
/-! ### selvage/quote.letter -/
def quote_letter.lvs : List (List Nat) := [[0], [0], [0], [0], [0], [0, 4], [0, 4], [0, 4], [0, 4], [0, 4], [0, 4, 6], [0, 4], [], [0, 4], [0, 4], [0, 4], [0, 4], [0, 4, 12], [4], [4], [2, 3], [0, 4], [0, 4], [], [], [2, 3]]
def quote_letter.lv : Nat → List Nat := lvOf quote_letter.lvs
noncomputable def quote_letter.code : Code := bodyOf Tryz.f59
noncomputable def quote_letter.fe : FE := ⟨Tryz.f59, quote_letter.code, quote_letter.lv⟩
def quote_letter.cuts : List Nat := [7, 23]
abbrev quote_letter.X (w0 : Base) (n : Nat) : XT := xr (cx w0) 16 quote_letter.lv n
def quote_letter.q3 (X : XT) (w0 : Base) (n : Nat) (R : AV → Store → Prop) : Exit → Env → Store → Prop := thenQ (fun env σ => X (cAt quote_letter.code 23) 23 (prune (quote_letter.lv 23) env) σ (finQ (cx w0) Tryz.f59 n R)) (finQ (cx w0) Tryz.f59 n R)
def quote_letter.q6 (X : XT) (w0 : Base) (n : Nat) (R : AV → Store → Prop) : Exit → Env → Store → Prop := blockQ 0 (quote_letter.q3 X w0 n R)
def quote_letter.q7 (X : XT) (w0 : Base) (n : Nat) (R : AV → Store → Prop) : Exit → Env → Store → Prop := thenQ (fun env σ => X (cAt quote_letter.code 6) 6 (prune (quote_letter.lv 6) env) σ (quote_letter.q6 X w0 n R)) (quote_letter.q6 X w0 n R)
def quote_letter.n6 (X : XT) (w0 : Base) (n : Nat) (R : AV → Store → Prop) (σ : Store) (c : Int) (i : Int) : Prop :=
  X (cAt quote_letter.code 6) 6 [(0, (.pv (.int .u8 c))), (4, (.pv (.int .i64 i)))] σ (quote_letter.q6 X w0 n R)
def quote_letter.n7 (X : XT) (w0 : Base) (n : Nat) (R : AV → Store → Prop) (σ : Store) (c : Int) (i : Int) : Prop :=
  X (cAt quote_letter.code 7) 7 [(0, (.pv (.int .u8 c))), (4, (.pv (.int .i64 i)))] σ (quote_letter.q7 X w0 n R)
def quote_letter.b7 (X : XT) (w0 : Base) (n : Nat) (R : AV → Store → Prop) (σ : Store) (c : Int) (i : Int) : Prop :=
  pcodeX (cx w0) 16 quote_letter.lv n quote_letter.cuts X (cAt quote_letter.code 7) 7 [(0, (.pv (.int .u8 c))), (4, (.pv (.int .i64 i)))] σ (quote_letter.q7 X w0 n R)
def quote_letter.n23 (X : XT) (w0 : Base) (n : Nat) (R : AV → Store → Prop) (σ : Store) : Prop :=
  X (cAt quote_letter.code 23) 23 [] σ (finQ (cx w0) Tryz.f59 n R)
def quote_letter.b23 (X : XT) (w0 : Base) (n : Nat) (R : AV → Store → Prop) (σ : Store) : Prop :=
  pcodeX (cx w0) 16 quote_letter.lv n quote_letter.cuts X (cAt quote_letter.code 23) 23 [] σ (finQ (cx w0) Tryz.f59 n R)
def quote_letter.b0 (X : XT) (w0 : Base) (n : Nat) (R : AV → Store → Prop) (σ : Store) (c : Int) : Prop :=
  pcodeX (cx w0) 16 quote_letter.lv n quote_letter.cuts X quote_letter.code 0 (argsE 0 [(.pv (.int .u8 c))]) σ (finQ (cx w0) Tryz.f59 n R)
theorem quote_letter.n6_in {w0 : Base} {n : Nat} {R : AV → Store → Prop} {σ : Store} {c : Int} {i : Int} (h : quote_letter.b7 (quote_letter.X w0 n) w0 n R σ c i) : quote_letter.n6 (quote_letter.X w0 n) w0 n R σ c i := xr_round (cxOK w0) (S := quote_letter.cuts) (by kernel_rfl : cAt quote_letter.code 6 = .loop (cAt quote_letter.code 7)) h
theorem quote_letter.n6_weak {w0 : Base} {n : Nat} {R : AV → Store → Prop} {σ τ : Store} {c : Int} {i : Int} {c' : Int} {i' : Int} (e : EWeak (cx w0) n [(0, (.pv (.int .u8 c))), (4, (.pv (.int .i64 i)))] σ [(0, (.pv (.int .u8 c'))), (4, (.pv (.int .i64 i')))] τ) (h : quote_letter.n6 (quote_letter.X w0 n) w0 n R τ c' i') : quote_letter.n6 (quote_letter.X w0 n) w0 n R σ c i := xr_weak (L := quote_letter.lv) (k := 6) (by kernel_rfl : cAt quote_letter.code 6 = .loop (cAt quote_letter.code 7)) e h
theorem quote_letter.b7_eq (X : XT) (w0 : Base) (n : Nat) (R : AV → Store → Prop) (σ : Store) (c : Int) (i : Int) : quote_letter.b7 X w0 n R σ c i = (
  condB (decide ((i : Int) < 18)) (opt (aIndex tabS ti9.td (.pv (.str [7, 97, 8, 98, 9, 116, 10, 110, 11, 118, 12, 102, 13, 114, 34, 34, 92, 92])) i) fun t10 => isI .u8 t10 fun t10_1 => condB ((t10_1 : Int) == c) (opt (aIndex tabS ti9.td (.pv (.str [7, 97, 8, 98, 9, 116, 10, 110, 11, 118, 12, 102, 13, 114, 34, 34, 92, 92])) (IntKind.wrap .i64 (i + 1))) fun t15 => isI .u8 t15 fun t15_1 => FinK (cx w0) n (.tup [(.pv (.int .u8 t15_1)), (.pv (.bool true))]) σ R) (quote_letter.n6 X w0 n R σ c (IntKind.wrap .i64 (i + 2)))) (quote_letter.n23 X w0 n R σ)) := by kernel_rfl
theorem quote_letter.n7_in {w0 : Base} {n : Nat} {R : AV → Store → Prop} {σ : Store} {c : Int} {i : Int} (h : quote_letter.b7 (quote_letter.X w0 n) w0 n R σ c i) : quote_letter.n7 (quote_letter.X w0 n) w0 n R σ c i := xr_in (S := quote_letter.cuts) (by kernel_rfl) h
theorem quote_letter.b23_eq (X : XT) (w0 : Base) (n : Nat) (R : AV → Store → Prop) (σ : Store) : quote_letter.b23 X w0 n R σ = (
  FinK (cx w0) n (.tup [(.pv (.int .u8 0)), (.pv (.bool false))]) σ R) := by kernel_rfl
theorem quote_letter.n23_in {w0 : Base} {n : Nat} {R : AV → Store → Prop} {σ : Store} (h : quote_letter.b23 (quote_letter.X w0 n) w0 n R σ) : quote_letter.n23 (quote_letter.X w0 n) w0 n R σ := xr_in (S := quote_letter.cuts) (by kernel_rfl) h
theorem quote_letter.b0_eq (X : XT) (w0 : Base) (n : Nat) (R : AV → Store → Prop) (σ : Store) (c : Int) : quote_letter.b0 X w0 n R σ c = (
  quote_letter.n6 X w0 n R σ c 0) := by kernel_rfl
theorem quote_letter.ok (w0 : Base) : FOK (cx w0) quote_letter.id quote_letter.fe := ⟨Tryz.func59, by kernel_rfl, by kernel_rfl⟩
theorem quote_letter.calls {w0 : Base} {R : AV → Store → Prop} {σ : Store} {c : Int} (h : quote_letter.b0 (quote_letter.X w0 (List.length σ)) w0 (List.length σ) R σ c) : SCalls (cx w0) quote_letter.id [(.pv (.int .u8 c))] σ R :=
  xr_enter (cxOK w0) (x := quote_letter.fe) (S := quote_letter.cuts) (quote_letter.ok w0) (by kernel_rfl) h
/-! ### selvage/quote.Quote -/
def quote_Quote.lvs : List (List Nat) := [[0], [0], [0], [0], [0], [0, 10], [0], [0], [2], [0], [0], [0], [0, 3], [0, 3], [0, 3], [0, 3], [0, 3], [0, 3, 14, 15], [0, 3, 14, 15], [0, 3, 14, 15], [0, 3, 14, 15], [0, 3, 14, 15, 16], [0, 3, 14, 15, 16], [0, 3, 14, 15], [3], [0, 3, 14, 15], [0, 3, 14, 15], [0, 3, 14, 15], [0, 3, 14, 15], [0, 3, 4, 14, 15], [0, 3, 4, 14, 15], [0, 3, 5, 14, 15], [0, 3, 5, 14, 15], [0, 3, 5, 6, 7, 14, 15], [0, 3, 5, 6, 7, 14, 15], [0, 3, 5, 6, 7, 14, 15], [0, 3, 5, 6, 14, 15, 28], [0, 3, 6, 14, 15], [0, 3, 6, 14, 15], [0, 3, 6, 14, 15], [0, 3, 5, 14, 15], [0, 3, 5, 14, 15], [0, 3, 5, 14, 15, 33], [0, 3, 5, 14, 15], [0, 3, 5, 14, 15], [0, 3, 14, 15], [3], [3], [3], [3], [2]]
def quote_Quote.lv : Nat → List Nat := lvOf quote_Quote.lvs
noncomputable def quote_Quote.code : Code := bodyOf Tryz.f32
noncomputable def quote_Quote.fe : FE := ⟨Tryz.f32, quote_Quote.code, quote_Quote.lv⟩
def quote_Quote.cuts : List Nat := [19, 42, 45, 46]
abbrev quote_Quote.X (w0 : Base) (n : Nat) : XT := xr (cx w0) 55 quote_Quote.lv n
def quote_Quote.q15 (X : XT) (w0 : Base) (n : Nat) (R : AV → Store → Prop) : Exit → Env → Store → Prop := thenQ (fun env σ => X (cAt quote_Quote.code 46) 46 (prune (quote_Quote.lv 46) env) σ (finQ (cx w0) Tryz.f32 n R)) (finQ (cx w0) Tryz.f32 n R)
def quote_Quote.q18 (X : XT) (w0 : Base) (n : Nat) (R : AV → Store → Prop) : Exit → Env → Store → Prop := blockQ 0 (quote_Quote.q15 X w0 n R)
def quote_Quote.q19 (X : XT) (w0 : Base) (n : Nat) (R : AV → Store → Prop) : Exit → Env → Store → Prop := thenQ (fun env σ => X (cAt quote_Quote.code 18) 18 (prune (quote_Quote.lv 18) env) σ (quote_Quote.q18 X w0 n R)) (quote_Quote.q18 X w0 n R)
def quote_Quote.q26 (X : XT) (w0 : Base) (n : Nat) (R : AV → Store → Prop) : Exit → Env → Store → Prop := thenQ (fun env σ => X (cAt quote_Quote.code 45) 45 (prune (quote_Quote.lv 45) env) σ (quote_Quote.q19 X w0 n R)) (quote_Quote.q19 X w0 n R)
def quote_Quote.q27 (X : XT) (w0 : Base) (n : Nat) (R : AV → Store → Prop) : Exit → Env → Store → Prop := blockQ 1 (quote_Quote.q26 X w0 n R)
def quote_Quote.q34 (X : XT) (w0 : Base) (n : Nat) (R : AV → Store → Prop) : Exit → Env → Store → Prop := blockQ 2 (quote_Quote.q27 X w0 n R)
def quote_Quote.n18 (X : XT) (w0 : Base) (n : Nat) (R : AV → Store → Prop) (σ : Store) (name : List UInt8) (b : AV) (t14 : Int) (t15 : Int) : Prop :=
  X (cAt quote_Quote.code 18) 18 [(0, (.pv (.str name))), (3, b), (14, (.pv (.int .i64 t14))), (15, (.pv (.int .i64 t15)))] σ (quote_Quote.q18 X w0 n R)
def quote_Quote.n19 (X : XT) (w0 : Base) (n : Nat) (R : AV → Store → Prop) (σ : Store) (name : List UInt8) (b : AV) (t14 : Int) (t15 : Int) : Prop :=
  X (cAt quote_Quote.code 19) 19 [(0, (.pv (.str name))), (3, b), (14, (.pv (.int .i64 t14))), (15, (.pv (.int .i64 t15)))] σ (quote_Quote.q19 X w0 n R)
def quote_Quote.b19 (X : XT) (w0 : Base) (n : Nat) (R : AV → Store → Prop) (σ : Store) (name : List UInt8) (b : AV) (t14 : Int) (t15 : Int) : Prop :=
  pcodeX (cx w0) 55 quote_Quote.lv n quote_Quote.cuts X (cAt quote_Quote.code 19) 19 [(0, (.pv (.str name))), (3, b), (14, (.pv (.int .i64 t14))), (15, (.pv (.int .i64 t15)))] σ (quote_Quote.q19 X w0 n R)
def quote_Quote.n42 (X : XT) (w0 : Base) (n : Nat) (R : AV → Store → Prop) (σ : Store) (name : List UInt8) (b : AV) (c : Int) (t14 : Int) (t15 : Int) (t33 : Bool) : Prop :=
  X (cAt quote_Quote.code 42) 42 [(0, (.pv (.str name))), (3, b), (5, (.pv (.int .u8 c))), (14, (.pv (.int .i64 t14))), (15, (.pv (.int .i64 t15))), (33, (.pv (.bool t33)))] σ (quote_Quote.q34 X w0 n R)
def quote_Quote.b42 (X : XT) (w0 : Base) (n : Nat) (R : AV → Store → Prop) (σ : Store) (name : List UInt8) (b : AV) (c : Int) (t14 : Int) (t15 : Int) (t33 : Bool) : Prop :=
  pcodeX (cx w0) 55 quote_Quote.lv n quote_Quote.cuts X (cAt quote_Quote.code 42) 42 [(0, (.pv (.str name))), (3, b), (5, (.pv (.int .u8 c))), (14, (.pv (.int .i64 t14))), (15, (.pv (.int .i64 t15))), (33, (.pv (.bool t33)))] σ (quote_Quote.q34 X w0 n R)
def quote_Quote.n45 (X : XT) (w0 : Base) (n : Nat) (R : AV → Store → Prop) (σ : Store) (name : List UInt8) (b : AV) (t14 : Int) (t15 : Int) : Prop :=
  X (cAt quote_Quote.code 45) 45 [(0, (.pv (.str name))), (3, b), (14, (.pv (.int .i64 t14))), (15, (.pv (.int .i64 t15)))] σ (quote_Quote.q19 X w0 n R)
def quote_Quote.b45 (X : XT) (w0 : Base) (n : Nat) (R : AV → Store → Prop) (σ : Store) (name : List UInt8) (b : AV) (t14 : Int) (t15 : Int) : Prop :=
  pcodeX (cx w0) 55 quote_Quote.lv n quote_Quote.cuts X (cAt quote_Quote.code 45) 45 [(0, (.pv (.str name))), (3, b), (14, (.pv (.int .i64 t14))), (15, (.pv (.int .i64 t15)))] σ (quote_Quote.q19 X w0 n R)
def quote_Quote.n46 (X : XT) (w0 : Base) (n : Nat) (R : AV → Store → Prop) (σ : Store) (b : AV) : Prop :=
  X (cAt quote_Quote.code 46) 46 [(3, b)] σ (finQ (cx w0) Tryz.f32 n R)
def quote_Quote.b46 (X : XT) (w0 : Base) (n : Nat) (R : AV → Store → Prop) (σ : Store) (b : AV) : Prop :=
  pcodeX (cx w0) 55 quote_Quote.lv n quote_Quote.cuts X (cAt quote_Quote.code 46) 46 [(3, b)] σ (finQ (cx w0) Tryz.f32 n R)
def quote_Quote.b0 (X : XT) (w0 : Base) (n : Nat) (R : AV → Store → Prop) (σ : Store) (name : List UInt8) : Prop :=
  pcodeX (cx w0) 55 quote_Quote.lv n quote_Quote.cuts X quote_Quote.code 0 (argsE 0 [(.pv (.str name))]) σ (finQ (cx w0) Tryz.f32 n R)
theorem quote_Quote.n18_in {w0 : Base} {n : Nat} {R : AV → Store → Prop} {σ : Store} {name : List UInt8} {b : AV} {t14 : Int} {t15 : Int} (h : quote_Quote.b19 (quote_Quote.X w0 n) w0 n R σ name b t14 t15) : quote_Quote.n18 (quote_Quote.X w0 n) w0 n R σ name b t14 t15 := xr_round (cxOK w0) (S := quote_Quote.cuts) (by kernel_rfl : cAt quote_Quote.code 18 = .loop (cAt quote_Quote.code 19)) h
theorem quote_Quote.n18_weak {w0 : Base} {n : Nat} {R : AV → Store → Prop} {σ τ : Store} {name : List UInt8} {b : AV} {t14 : Int} {t15 : Int} {name' : List UInt8} {b' : AV} {t14' : Int} {t15' : Int} (e : EWeak (cx w0) n [(0, (.pv (.str name))), (3, b), (14, (.pv (.int .i64 t14))), (15, (.pv (.int .i64 t15)))] σ [(0, (.pv (.str name'))), (3, b'), (14, (.pv (.int .i64 t14'))), (15, (.pv (.int .i64 t15')))] τ) (h : quote_Quote.n18 (quote_Quote.X w0 n) w0 n R τ name' b' t14' t15') : quote_Quote.n18 (quote_Quote.X w0 n) w0 n R σ name b t14 t15 := xr_weak (L := quote_Quote.lv) (k := 18) (by kernel_rfl : cAt quote_Quote.code 18 = .loop (cAt quote_Quote.code 19)) e h
theorem quote_Quote.b19_eq (X : XT) (w0 : Base) (n : Nat) (R : AV → Store → Prop) (σ : Store) (name : List UInt8) (b : AV) (t14 : Int) (t15 : Int) : quote_Quote.b19 X w0 n R σ name b t14 t15 = (
  condB (decide ((t15 : Int) < t14)) (opt (aIndex tabS ti9.td (.pv (.str name)) t15) fun t20 => isI .u8 t20 fun t20_1 => SCalls (cx w0) quote_letter.id [(.pv (.int .u8 t20_1))] σ fun r σ' => isTup r fun vs => opt ((vs)[0]?) fun t24 => isI .u8 t24 fun t24_1 => isTup r fun vs_1 => opt ((vs_1)[1]?) fun t25 => isB t25 fun t25_1 => condB t25_1 (SCalls (cx w0) strings_Builder_WriteByte.id [b, (.pv (.int .u8 92))] σ' fun r_1 σ'_1 => SCalls (cx w0) strings_Builder_WriteByte.id [b, (.pv (.int .u8 t24_1))] σ'_1 fun r_2 σ'_2 => quote_Quote.n45 X w0 n R σ'_2 name b t14 t15) (condB (decide ((t20_1 : Int) < 32)) (quote_Quote.n42 X w0 n R σ' name b t20_1 t14 t15 true) (quote_Quote.n42 X w0 n R σ' name b t20_1 t14 t15 (decide ((t20_1 : Int) ≥ 127))))) (quote_Quote.n46 X w0 n R σ b)) := by kernel_rfl
theorem quote_Quote.n19_in {w0 : Base} {n : Nat} {R : AV → Store → Prop} {σ : Store} {name : List UInt8} {b : AV} {t14 : Int} {t15 : Int} (h : quote_Quote.b19 (quote_Quote.X w0 n) w0 n R σ name b t14 t15) : quote_Quote.n19 (quote_Quote.X w0 n) w0 n R σ name b t14 t15 := xr_in (S := quote_Quote.cuts) (by kernel_rfl) h
theorem quote_Quote.b42_eq (X : XT) (w0 : Base) (n : Nat) (R : AV → Store → Prop) (σ : Store) (name : List UInt8) (b : AV) (c : Int) (t14 : Int) (t15 : Int) (t33 : Bool) : quote_Quote.b42 X w0 n R σ name b c t14 t15 t33 = (
  condB t33 ((0 ≤ (6 : Int) ∧ ((0 ≤ (3 : Int) ∧ (opt2 (aBuildSlice σ ti5 true 4 [(0, (.pv (.int .u8 92))), (1, (.pv (.int .u8 (IntKind.wrap .u8 (48 + (Int.fdiv c (2 ^ (min (6 : Int).toNat (IntKind.bits .u8))))))))), (2, (.pv (.int .u8 (IntKind.wrap .u8 (48 + (IntKind.wrap .u8 (BitVec.ofInt (IntKind.bits .u8) (Int.fdiv c (2 ^ (min (3 : Int).toNat (IntKind.bits .u8)))) &&& BitVec.ofInt (IntKind.bits .u8) 7).toNat)))))), (3, (.pv (.int .u8 (IntKind.wrap .u8 (48 + (IntKind.wrap .u8 (BitVec.ofInt (IntKind.bits .u8) c &&& BitVec.ofInt (IntKind.bits .u8) 7).toNat))))))]) fun t50 σ' => SCalls (cx w0) strings_Builder_Write.id [b, t50] σ' fun r σ'_1 => quote_Quote.n45 X w0 n R σ'_1 name b t14 t15))))) (SCalls (cx w0) strings_Builder_WriteByte.id [b, (.pv (.int .u8 c))] σ fun r σ' => quote_Quote.n45 X w0 n R σ' name b t14 t15)) := by kernel_rfl
theorem quote_Quote.n42_in {w0 : Base} {n : Nat} {R : AV → Store → Prop} {σ : Store} {name : List UInt8} {b : AV} {c : Int} {t14 : Int} {t15 : Int} {t33 : Bool} (h : quote_Quote.b42 (quote_Quote.X w0 n) w0 n R σ name b c t14 t15 t33) : quote_Quote.n42 (quote_Quote.X w0 n) w0 n R σ name b c t14 t15 t33 := xr_in (S := quote_Quote.cuts) (by kernel_rfl) h
theorem quote_Quote.b45_eq (X : XT) (w0 : Base) (n : Nat) (R : AV → Store → Prop) (σ : Store) (name : List UInt8) (b : AV) (t14 : Int) (t15 : Int) : quote_Quote.b45 X w0 n R σ name b t14 t15 = (
  quote_Quote.n18 X w0 n R σ name b t14 (IntKind.wrap .i64 (t15 + 1))) := by kernel_rfl
theorem quote_Quote.n45_in {w0 : Base} {n : Nat} {R : AV → Store → Prop} {σ : Store} {name : List UInt8} {b : AV} {t14 : Int} {t15 : Int} (h : quote_Quote.b45 (quote_Quote.X w0 n) w0 n R σ name b t14 t15) : quote_Quote.n45 (quote_Quote.X w0 n) w0 n R σ name b t14 t15 := xr_in (S := quote_Quote.cuts) (by kernel_rfl) h
theorem quote_Quote.b46_eq (X : XT) (w0 : Base) (n : Nat) (R : AV → Store → Prop) (σ : Store) (b : AV) : quote_Quote.b46 X w0 n R σ b = (
  SCalls (cx w0) strings_Builder_WriteByte.id [b, (.pv (.int .u8 34))] σ fun r σ' => SCalls (cx w0) strings_Builder_String.id [b] σ' fun r_1 σ'_1 => isS r_1 fun t54 => FinK (cx w0) n (.pv (.str t54)) σ'_1 R) := by kernel_rfl
theorem quote_Quote.n46_in {w0 : Base} {n : Nat} {R : AV → Store → Prop} {σ : Store} {b : AV} (h : quote_Quote.b46 (quote_Quote.X w0 n) w0 n R σ b) : quote_Quote.n46 (quote_Quote.X w0 n) w0 n R σ b := xr_in (S := quote_Quote.cuts) (by kernel_rfl) h
theorem quote_Quote.b0_eq (X : XT) (w0 : Base) (n : Nat) (R : AV → Store → Prop) (σ : Store) (name : List UInt8) : quote_Quote.b0 X w0 n R σ name = (
  SCalls (cx w0) quote_Needs.id [(.pv (.str name))] σ fun r σ' => isB r fun t9 => condB (!t9) (FinK (cx w0) n (.pv (.str name)) σ' R) (SCalls (cx w0) strings_Builder_WriteByte.id [(.ptr (List.length σ') 0), (.pv (.int .u8 34))] (σ' ++ [.bld 56 5 []]) fun r_1 σ'_1 => quote_Quote.n18 X w0 n R σ'_1 name (.ptr (List.length σ') 0) (List.length (name : List UInt8) : Int) 0)) := by kernel_rfl
theorem quote_Quote.ok (w0 : Base) : FOK (cx w0) quote_Quote.id quote_Quote.fe := ⟨Tryz.func32, by kernel_rfl, by kernel_rfl⟩
theorem quote_Quote.calls {w0 : Base} {R : AV → Store → Prop} {σ : Store} {name : List UInt8} (h : quote_Quote.b0 (quote_Quote.X w0 (List.length σ)) w0 (List.length σ) R σ name) : SCalls (cx w0) quote_Quote.id [(.pv (.str name))] σ R :=
  xr_enter (cxOK w0) (x := quote_Quote.fe) (S := quote_Quote.cuts) (quote_Quote.ok w0) (by kernel_rfl) h
/-! ### selvage/selvageref02.Needs -/
def selvageref02_Needs.lvs : List (List Nat) := [[0], [0], [0], [0], [0], [0, 3], [0, 3], [0, 3], [0, 3], [0, 3], [0, 3, 8], [0, 3], [0], [0, 3], [0, 3], [0, 3], [0, 3], [0, 3, 4], [0, 3, 4], [0, 3, 27], [], [], [2], [0, 3], [0, 3], [0], [0], [2]]
def selvageref02_Needs.lv : Nat → List Nat := lvOf selvageref02_Needs.lvs
noncomputable def selvageref02_Needs.code : Code := bodyOf Tryz.f66
noncomputable def selvageref02_Needs.fe : FE := ⟨Tryz.f66, selvageref02_Needs.code, selvageref02_Needs.lv⟩
def selvageref02_Needs.cuts : List Nat := [7, 19, 25]
abbrev selvageref02_Needs.X (w0 : Base) (n : Nat) : XT := xr (cx w0) 30 selvageref02_Needs.lv n
def selvageref02_Needs.q3 (X : XT) (w0 : Base) (n : Nat) (R : AV → Store → Prop) : Exit → Env → Store → Prop := thenQ (fun env σ => X (cAt selvageref02_Needs.code 25) 25 (prune (selvageref02_Needs.lv 25) env) σ (finQ (cx w0) Tryz.f66 n R)) (finQ (cx w0) Tryz.f66 n R)
def selvageref02_Needs.q6 (X : XT) (w0 : Base) (n : Nat) (R : AV → Store → Prop) : Exit → Env → Store → Prop := blockQ 0 (selvageref02_Needs.q3 X w0 n R)
def selvageref02_Needs.q7 (X : XT) (w0 : Base) (n : Nat) (R : AV → Store → Prop) : Exit → Env → Store → Prop := thenQ (fun env σ => X (cAt selvageref02_Needs.code 6) 6 (prune (selvageref02_Needs.lv 6) env) σ (selvageref02_Needs.q6 X w0 n R)) (selvageref02_Needs.q6 X w0 n R)
def selvageref02_Needs.q14 (X : XT) (w0 : Base) (n : Nat) (R : AV → Store → Prop) : Exit → Env → Store → Prop := thenQ (fun env σ => pcodeX (cx w0) 30 selvageref02_Needs.lv n selvageref02_Needs.cuts X (cAt selvageref02_Needs.code 24) 24 (prune (selvageref02_Needs.lv 24) env) σ (selvageref02_Needs.q7 X w0 n R)) (selvageref02_Needs.q7 X w0 n R)
def selvageref02_Needs.q15 (X : XT) (w0 : Base) (n : Nat) (R : AV → Store → Prop) : Exit → Env → Store → Prop := blockQ 1 (selvageref02_Needs.q14 X w0 n R)
def selvageref02_Needs.n6 (X : XT) (w0 : Base) (n : Nat) (R : AV → Store → Prop) (σ : Store) (name : List UInt8) (i : Int) : Prop :=
  X (cAt selvageref02_Needs.code 6) 6 [(0, (.pv (.str name))), (3, (.pv (.int .i64 i)))] σ (selvageref02_Needs.q6 X w0 n R)
def selvageref02_Needs.n7 (X : XT) (w0 : Base) (n : Nat) (R : AV → Store → Prop) (σ : Store) (name : List UInt8) (i : Int) : Prop :=
  X (cAt selvageref02_Needs.code 7) 7 [(0, (.pv (.str name))), (3, (.pv (.int .i64 i)))] σ (selvageref02_Needs.q7 X w0 n R)
def selvageref02_Needs.b7 (X : XT) (w0 : Base) (n : Nat) (R : AV → Store → Prop) (σ : Store) (name : List UInt8) (i : Int) : Prop :=
  pcodeX (cx w0) 30 selvageref02_Needs.lv n selvageref02_Needs.cuts X (cAt selvageref02_Needs.code 7) 7 [(0, (.pv (.str name))), (3, (.pv (.int .i64 i)))] σ (selvageref02_Needs.q7 X w0 n R)
def selvageref02_Needs.n19 (X : XT) (w0 : Base) (n : Nat) (R : AV → Store → Prop) (σ : Store) (name : List UInt8) (i : Int) (t27 : Bool) : Prop :=
  X (cAt selvageref02_Needs.code 19) 19 [(0, (.pv (.str name))), (3, (.pv (.int .i64 i))), (27, (.pv (.bool t27)))] σ (selvageref02_Needs.q15 X w0 n R)
def selvageref02_Needs.b19 (X : XT) (w0 : Base) (n : Nat) (R : AV → Store → Prop) (σ : Store) (name : List UInt8) (i : Int) (t27 : Bool) : Prop :=
  pcodeX (cx w0) 30 selvageref02_Needs.lv n selvageref02_Needs.cuts X (cAt selvageref02_Needs.code 19) 19 [(0, (.pv (.str name))), (3, (.pv (.int .i64 i))), (27, (.pv (.bool t27)))] σ (selvageref02_Needs.q15 X w0 n R)
def selvageref02_Needs.n25 (X : XT) (w0 : Base) (n : Nat) (R : AV → Store → Prop) (σ : Store) (name : List UInt8) : Prop :=
  X (cAt selvageref02_Needs.code 25) 25 [(0, (.pv (.str name)))] σ (finQ (cx w0) Tryz.f66 n R)
def selvageref02_Needs.b25 (X : XT) (w0 : Base) (n : Nat) (R : AV → Store → Prop) (σ : Store) (name : List UInt8) : Prop :=
  pcodeX (cx w0) 30 selvageref02_Needs.lv n selvageref02_Needs.cuts X (cAt selvageref02_Needs.code 25) 25 [(0, (.pv (.str name)))] σ (finQ (cx w0) Tryz.f66 n R)
def selvageref02_Needs.b0 (X : XT) (w0 : Base) (n : Nat) (R : AV → Store → Prop) (σ : Store) (name : List UInt8) : Prop :=
  pcodeX (cx w0) 30 selvageref02_Needs.lv n selvageref02_Needs.cuts X selvageref02_Needs.code 0 (argsE 0 [(.pv (.str name))]) σ (finQ (cx w0) Tryz.f66 n R)
theorem selvageref02_Needs.n6_in {w0 : Base} {n : Nat} {R : AV → Store → Prop} {σ : Store} {name : List UInt8} {i : Int} (h : selvageref02_Needs.b7 (selvageref02_Needs.X w0 n) w0 n R σ name i) : selvageref02_Needs.n6 (selvageref02_Needs.X w0 n) w0 n R σ name i := xr_round (cxOK w0) (S := selvageref02_Needs.cuts) (by kernel_rfl : cAt selvageref02_Needs.code 6 = .loop (cAt selvageref02_Needs.code 7)) h
theorem selvageref02_Needs.n6_weak {w0 : Base} {n : Nat} {R : AV → Store → Prop} {σ τ : Store} {name : List UInt8} {i : Int} {name' : List UInt8} {i' : Int} (e : EWeak (cx w0) n [(0, (.pv (.str name))), (3, (.pv (.int .i64 i)))] σ [(0, (.pv (.str name'))), (3, (.pv (.int .i64 i')))] τ) (h : selvageref02_Needs.n6 (selvageref02_Needs.X w0 n) w0 n R τ name' i') : selvageref02_Needs.n6 (selvageref02_Needs.X w0 n) w0 n R σ name i := xr_weak (L := selvageref02_Needs.lv) (k := 6) (by kernel_rfl : cAt selvageref02_Needs.code 6 = .loop (cAt selvageref02_Needs.code 7)) e h
theorem selvageref02_Needs.b7_eq (X : XT) (w0 : Base) (n : Nat) (R : AV → Store → Prop) (σ : Store) (name : List UInt8) (i : Int) : selvageref02_Needs.b7 X w0 n R σ name i = (
  condB (decide ((i : Int) < (List.length (name : List UInt8) : Int))) (opt (aIndex tabS ti9.td (.pv (.str name)) i) fun t13 => isI .u8 t13 fun t13_1 => condB (decide ((t13_1 : Int) < 33)) (selvageref02_Needs.n19 X w0 n R σ name i true) (condB ((t13_1 : Int) == 34) (selvageref02_Needs.n19 X w0 n R σ name i true) (condB ((t13_1 : Int) == 92) (selvageref02_Needs.n19 X w0 n R σ name i true) (selvageref02_Needs.n19 X w0 n R σ name i (decide ((t13_1 : Int) ≥ 127)))))) (selvageref02_Needs.n25 X w0 n R σ name)) := by kernel_rfl
theorem selvageref02_Needs.n7_in {w0 : Base} {n : Nat} {R : AV → Store → Prop} {σ : Store} {name : List UInt8} {i : Int} (h : selvageref02_Needs.b7 (selvageref02_Needs.X w0 n) w0 n R σ name i) : selvageref02_Needs.n7 (selvageref02_Needs.X w0 n) w0 n R σ name i := xr_in (S := selvageref02_Needs.cuts) (by kernel_rfl) h
theorem selvageref02_Needs.b19_eq (X : XT) (w0 : Base) (n : Nat) (R : AV → Store → Prop) (σ : Store) (name : List UInt8) (i : Int) (t27 : Bool) : selvageref02_Needs.b19 X w0 n R σ name i t27 = (
  condB t27 (FinK (cx w0) n (.pv (.bool true)) σ R) (selvageref02_Needs.n6 X w0 n R σ name (IntKind.wrap .i64 (i + 1)))) := by kernel_rfl
theorem selvageref02_Needs.n19_in {w0 : Base} {n : Nat} {R : AV → Store → Prop} {σ : Store} {name : List UInt8} {i : Int} {t27 : Bool} (h : selvageref02_Needs.b19 (selvageref02_Needs.X w0 n) w0 n R σ name i t27) : selvageref02_Needs.n19 (selvageref02_Needs.X w0 n) w0 n R σ name i t27 := xr_in (S := selvageref02_Needs.cuts) (by kernel_rfl) h
theorem selvageref02_Needs.b25_eq (X : XT) (w0 : Base) (n : Nat) (R : AV → Store → Prop) (σ : Store) (name : List UInt8) : selvageref02_Needs.b25 X w0 n R σ name = (
  FinK (cx w0) n (.pv (.bool ((name : List UInt8) == []))) σ R) := by kernel_rfl
theorem selvageref02_Needs.n25_in {w0 : Base} {n : Nat} {R : AV → Store → Prop} {σ : Store} {name : List UInt8} (h : selvageref02_Needs.b25 (selvageref02_Needs.X w0 n) w0 n R σ name) : selvageref02_Needs.n25 (selvageref02_Needs.X w0 n) w0 n R σ name := xr_in (S := selvageref02_Needs.cuts) (by kernel_rfl) h
theorem selvageref02_Needs.b0_eq (X : XT) (w0 : Base) (n : Nat) (R : AV → Store → Prop) (σ : Store) (name : List UInt8) : selvageref02_Needs.b0 X w0 n R σ name = (
  selvageref02_Needs.n6 X w0 n R σ name 0) := by kernel_rfl
theorem selvageref02_Needs.ok (w0 : Base) : FOK (cx w0) selvageref02_Needs.id selvageref02_Needs.fe := ⟨Tryz.func66, by kernel_rfl, by kernel_rfl⟩
theorem selvageref02_Needs.calls {w0 : Base} {R : AV → Store → Prop} {σ : Store} {name : List UInt8} (h : selvageref02_Needs.b0 (selvageref02_Needs.X w0 (List.length σ)) w0 (List.length σ) R σ name) : SCalls (cx w0) selvageref02_Needs.id [(.pv (.str name))] σ R :=
  xr_enter (cxOK w0) (x := selvageref02_Needs.fe) (S := selvageref02_Needs.cuts) (selvageref02_Needs.ok w0) (by kernel_rfl) h
/-! ### selvage/selvageref02.escape -/
def selvageref02_escape.lvs : List (List Nat) := [[0], [0], [0], [0], [0], [0, 3], [0, 3], [0, 3], [0, 3], [0, 3], [0, 3, 6], [0, 3], [0], [0, 3], [0, 3], [0, 3], [0, 3], [0, 3, 12], [3], [3], [2], [0, 3], [0, 3], [0], [0], [0], [0, 23], [0], [0], [2], [0], [0], [0], [4], [4], [2]]
def selvageref02_escape.lv : Nat → List Nat := lvOf selvageref02_escape.lvs
noncomputable def selvageref02_escape.code : Code := bodyOf Tryz.f67
noncomputable def selvageref02_escape.fe : FE := ⟨Tryz.f67, selvageref02_escape.code, selvageref02_escape.lv⟩
def selvageref02_escape.cuts : List Nat := [7, 23, 26]
abbrev selvageref02_escape.X (w0 : Base) (n : Nat) : XT := xr (cx w0) 41 selvageref02_escape.lv n
def selvageref02_escape.q3 (X : XT) (w0 : Base) (n : Nat) (R : AV → Store → Prop) : Exit → Env → Store → Prop := thenQ (fun env σ => X (cAt selvageref02_escape.code 23) 23 (prune (selvageref02_escape.lv 23) env) σ (finQ (cx w0) Tryz.f67 n R)) (finQ (cx w0) Tryz.f67 n R)
def selvageref02_escape.q6 (X : XT) (w0 : Base) (n : Nat) (R : AV → Store → Prop) : Exit → Env → Store → Prop := blockQ 0 (selvageref02_escape.q3 X w0 n R)
def selvageref02_escape.q7 (X : XT) (w0 : Base) (n : Nat) (R : AV → Store → Prop) : Exit → Env → Store → Prop := thenQ (fun env σ => X (cAt selvageref02_escape.code 6) 6 (prune (selvageref02_escape.lv 6) env) σ (selvageref02_escape.q6 X w0 n R)) (selvageref02_escape.q6 X w0 n R)
def selvageref02_escape.q24 (X : XT) (w0 : Base) (n : Nat) (R : AV → Store → Prop) : Exit → Env → Store → Prop := thenQ (fun env σ => pcodeX (cx w0) 41 selvageref02_escape.lv n selvageref02_escape.cuts X (cAt selvageref02_escape.code 31) 31 (prune (selvageref02_escape.lv 31) env) σ (finQ (cx w0) Tryz.f67 n R)) (finQ (cx w0) Tryz.f67 n R)
def selvageref02_escape.n6 (X : XT) (w0 : Base) (n : Nat) (R : AV → Store → Prop) (σ : Store) (b : Int) (i : Int) : Prop :=
  X (cAt selvageref02_escape.code 6) 6 [(0, (.pv (.int .u8 b))), (3, (.pv (.int .i64 i)))] σ (selvageref02_escape.q6 X w0 n R)
def selvageref02_escape.n7 (X : XT) (w0 : Base) (n : Nat) (R : AV → Store → Prop) (σ : Store) (b : Int) (i : Int) : Prop :=
  X (cAt selvageref02_escape.code 7) 7 [(0, (.pv (.int .u8 b))), (3, (.pv (.int .i64 i)))] σ (selvageref02_escape.q7 X w0 n R)
def selvageref02_escape.b7 (X : XT) (w0 : Base) (n : Nat) (R : AV → Store → Prop) (σ : Store) (b : Int) (i : Int) : Prop :=
  pcodeX (cx w0) 41 selvageref02_escape.lv n selvageref02_escape.cuts X (cAt selvageref02_escape.code 7) 7 [(0, (.pv (.int .u8 b))), (3, (.pv (.int .i64 i)))] σ (selvageref02_escape.q7 X w0 n R)
def selvageref02_escape.n23 (X : XT) (w0 : Base) (n : Nat) (R : AV → Store → Prop) (σ : Store) (b : Int) : Prop :=
  X (cAt selvageref02_escape.code 23) 23 [(0, (.pv (.int .u8 b)))] σ (finQ (cx w0) Tryz.f67 n R)
def selvageref02_escape.b23 (X : XT) (w0 : Base) (n : Nat) (R : AV → Store → Prop) (σ : Store) (b : Int) : Prop :=
  pcodeX (cx w0) 41 selvageref02_escape.lv n selvageref02_escape.cuts X (cAt selvageref02_escape.code 23) 23 [(0, (.pv (.int .u8 b)))] σ (finQ (cx w0) Tryz.f67 n R)
def selvageref02_escape.n26 (X : XT) (w0 : Base) (n : Nat) (R : AV → Store → Prop) (σ : Store) (b : Int) (t23 : Bool) : Prop :=
  X (cAt selvageref02_escape.code 26) 26 [(0, (.pv (.int .u8 b))), (23, (.pv (.bool t23)))] σ (selvageref02_escape.q24 X w0 n R)
def selvageref02_escape.b26 (X : XT) (w0 : Base) (n : Nat) (R : AV → Store → Prop) (σ : Store) (b : Int) (t23 : Bool) : Prop :=
  pcodeX (cx w0) 41 selvageref02_escape.lv n selvageref02_escape.cuts X (cAt selvageref02_escape.code 26) 26 [(0, (.pv (.int .u8 b))), (23, (.pv (.bool t23)))] σ (selvageref02_escape.q24 X w0 n R)
def selvageref02_escape.b0 (X : XT) (w0 : Base) (n : Nat) (R : AV → Store → Prop) (σ : Store) (b : Int) : Prop :=
  pcodeX (cx w0) 41 selvageref02_escape.lv n selvageref02_escape.cuts X selvageref02_escape.code 0 (argsE 0 [(.pv (.int .u8 b))]) σ (finQ (cx w0) Tryz.f67 n R)
theorem selvageref02_escape.n6_in {w0 : Base} {n : Nat} {R : AV → Store → Prop} {σ : Store} {b : Int} {i : Int} (h : selvageref02_escape.b7 (selvageref02_escape.X w0 n) w0 n R σ b i) : selvageref02_escape.n6 (selvageref02_escape.X w0 n) w0 n R σ b i := xr_round (cxOK w0) (S := selvageref02_escape.cuts) (by kernel_rfl : cAt selvageref02_escape.code 6 = .loop (cAt selvageref02_escape.code 7)) h
theorem selvageref02_escape.n6_weak {w0 : Base} {n : Nat} {R : AV → Store → Prop} {σ τ : Store} {b : Int} {i : Int} {b' : Int} {i' : Int} (e : EWeak (cx w0) n [(0, (.pv (.int .u8 b))), (3, (.pv (.int .i64 i)))] σ [(0, (.pv (.int .u8 b'))), (3, (.pv (.int .i64 i')))] τ) (h : selvageref02_escape.n6 (selvageref02_escape.X w0 n) w0 n R τ b' i') : selvageref02_escape.n6 (selvageref02_escape.X w0 n) w0 n R σ b i := xr_weak (L := selvageref02_escape.lv) (k := 6) (by kernel_rfl : cAt selvageref02_escape.code 6 = .loop (cAt selvageref02_escape.code 7)) e h
theorem selvageref02_escape.b7_eq (X : XT) (w0 : Base) (n : Nat) (R : AV → Store → Prop) (σ : Store) (b : Int) (i : Int) : selvageref02_escape.b7 X w0 n R σ b i = (
  condB (decide ((i : Int) < 9)) (opt (aIndex tabS ti9.td (.pv (.str [7, 8, 9, 10, 11, 12, 13, 34, 92])) i) fun t10 => isI .u8 t10 fun t10_1 => condB ((t10_1 : Int) == b) (opt (aSlice σ tabS ti9.td (.pv (.str [97, 98, 116, 110, 118, 102, 114, 34, 92])) (some (.pv (.int .i64 i))) (some (.pv (.int .i64 (IntKind.wrap .i64 (i + 1)))))) fun t16 => isS t16 fun t16_1 => (List.length ([92] : List UInt8) + List.length (t16_1 : List UInt8) ≤ 9223372036854775807 ∧ (FinK (cx w0) n (.pv (.str ([92] ++ t16_1))) σ R))) (selvageref02_escape.n6 X w0 n R σ b (IntKind.wrap .i64 (i + 1)))) (selvageref02_escape.n23 X w0 n R σ b)) := by kernel_rfl
theorem selvageref02_escape.n7_in {w0 : Base} {n : Nat} {R : AV → Store → Prop} {σ : Store} {b : Int} {i : Int} (h : selvageref02_escape.b7 (selvageref02_escape.X w0 n) w0 n R σ b i) : selvageref02_escape.n7 (selvageref02_escape.X w0 n) w0 n R σ b i := xr_in (S := selvageref02_escape.cuts) (by kernel_rfl) h
theorem selvageref02_escape.b23_eq (X : XT) (w0 : Base) (n : Nat) (R : AV → Store → Prop) (σ : Store) (b : Int) : selvageref02_escape.b23 X w0 n R σ b = (
  condB (decide ((b : Int) ≥ 32)) (selvageref02_escape.n26 X w0 n R σ b (decide ((b : Int) < 127))) (selvageref02_escape.n26 X w0 n R σ b false)) := by kernel_rfl
theorem selvageref02_escape.n23_in {w0 : Base} {n : Nat} {R : AV → Store → Prop} {σ : Store} {b : Int} (h : selvageref02_escape.b23 (selvageref02_escape.X w0 n) w0 n R σ b) : selvageref02_escape.n23 (selvageref02_escape.X w0 n) w0 n R σ b := xr_in (S := selvageref02_escape.cuts) (by kernel_rfl) h
theorem selvageref02_escape.b26_eq (X : XT) (w0 : Base) (n : Nat) (R : AV → Store → Prop) (σ : Store) (b : Int) (t23 : Bool) : selvageref02_escape.b26 X w0 n R σ b t23 = (
  condB t23 (opt2 (aBuildSlice σ ti5 false 1 [(0, (.pv (.int .u8 b)))]) fun t25 σ' => opt2 (aConvert σ' tabS ti54.td ti9.td t25) fun t26 σ'_1 => isS t26 fun t26_1 => FinK (cx w0) n (.pv (.str t26_1)) σ'_1 R) (((64 : Int) ≠ 0 ∧ (opt (aIndex tabS ti9.td (.pv (.str [48, 49, 50, 51, 52, 53, 54, 55])) (IntKind.wrap .i64 (Int.tdiv (IntKind.wrap .i64 b) 64))) fun t31 => isI .u8 t31 fun t31_1 => ((8 : Int) ≠ 0 ∧ (((8 : Int) ≠ 0 ∧ (opt (aIndex tabS ti9.td (.pv (.str [48, 49, 50, 51, 52, 53, 54, 55])) (Int.tmod (IntKind.wrap .i64 (Int.tdiv (IntKind.wrap .i64 b) 8)) 8)) fun t35 => isI .u8 t35 fun t35_1 => ((8 : Int) ≠ 0 ∧ (opt (aIndex tabS ti9.td (.pv (.str [48, 49, 50, 51, 52, 53, 54, 55])) (Int.tmod (IntKind.wrap .i64 b) 8)) fun t38 => isI .u8 t38 fun t38_1 => opt2 (aBuildSlice σ ti5 false 4 [(0, (.pv (.int .u8 92))), (1, (.pv (.int .u8 t31_1))), (2, (.pv (.int .u8 t35_1))), (3, (.pv (.int .u8 t38_1)))]) fun t39 σ' => opt2 (aConvert σ' tabS ti54.td ti9.td t39) fun t40 σ'_1 => isS t40 fun t40_1 => FinK (cx w0) n (.pv (.str t40_1)) σ' R)))))))))) := by kernel_rfl
theorem selvageref02_escape.n26_in {w0 : Base} {n : Nat} {R : AV → Store → Prop} {σ : Store} {b : Int} {t23 : Bool} (h : selvageref02_escape.b26 (selvageref02_escape.X w0 n) w0 n R σ b t23) : selvageref02_escape.n26 (selvageref02_escape.X w0 n) w0 n R σ b t23 := xr_in (S := selvageref02_escape.cuts) (by kernel_rfl) h
theorem selvageref02_escape.b0_eq (X : XT) (w0 : Base) (n : Nat) (R : AV → Store → Prop) (σ : Store) (b : Int) : selvageref02_escape.b0 X w0 n R σ b = (
  selvageref02_escape.n6 X w0 n R σ b 0) := by kernel_rfl
theorem selvageref02_escape.ok (w0 : Base) : FOK (cx w0) selvageref02_escape.id selvageref02_escape.fe := ⟨Tryz.func67, by kernel_rfl, by kernel_rfl⟩
theorem selvageref02_escape.calls {w0 : Base} {R : AV → Store → Prop} {σ : Store} {b : Int} (h : selvageref02_escape.b0 (selvageref02_escape.X w0 (List.length σ)) w0 (List.length σ) R σ b) : SCalls (cx w0) selvageref02_escape.id [(.pv (.int .u8 b))] σ R :=
  xr_enter (cxOK w0) (x := selvageref02_escape.fe) (S := selvageref02_escape.cuts) (selvageref02_escape.ok w0) (by kernel_rfl) h
/-! ### selvage/selvageref02.Quote -/
def selvageref02_Quote.lvs : List (List Nat) := [[0], [0], [0], [0], [0], [0, 7], [0], [0], [2], [0], [0], [0], [0, 3], [0, 3], [0, 3], [0, 3, 4], [0, 3, 4], [0, 3, 4], [0, 3, 4], [0, 3, 4], [0, 3, 4, 13], [0, 3, 4], [3], [0, 3, 4], [0, 3, 4], [0, 3, 4], [0, 3, 4], [3], [3], [2]]
def selvageref02_Quote.lv : Nat → List Nat := lvOf selvageref02_Quote.lvs
noncomputable def selvageref02_Quote.code : Code := bodyOf Tryz.f39
noncomputable def selvageref02_Quote.fe : FE := ⟨Tryz.f39, selvageref02_Quote.code, selvageref02_Quote.lv⟩
def selvageref02_Quote.cuts : List Nat := [17, 27]
abbrev selvageref02_Quote.X (w0 : Base) (n : Nat) : XT := xr (cx w0) 26 selvageref02_Quote.lv n
def selvageref02_Quote.q13 (X : XT) (w0 : Base) (n : Nat) (R : AV → Store → Prop) : Exit → Env → Store → Prop := thenQ (fun env σ => X (cAt selvageref02_Quote.code 27) 27 (prune (selvageref02_Quote.lv 27) env) σ (finQ (cx w0) Tryz.f39 n R)) (finQ (cx w0) Tryz.f39 n R)
def selvageref02_Quote.q16 (X : XT) (w0 : Base) (n : Nat) (R : AV → Store → Prop) : Exit → Env → Store → Prop := blockQ 0 (selvageref02_Quote.q13 X w0 n R)
def selvageref02_Quote.q17 (X : XT) (w0 : Base) (n : Nat) (R : AV → Store → Prop) : Exit → Env → Store → Prop := thenQ (fun env σ => X (cAt selvageref02_Quote.code 16) 16 (prune (selvageref02_Quote.lv 16) env) σ (selvageref02_Quote.q16 X w0 n R)) (selvageref02_Quote.q16 X w0 n R)
def selvageref02_Quote.n16 (X : XT) (w0 : Base) (n : Nat) (R : AV → Store → Prop) (σ : Store) (name : List UInt8) (out : AV) (i : Int) : Prop :=
  X (cAt selvageref02_Quote.code 16) 16 [(0, (.pv (.str name))), (3, out), (4, (.pv (.int .i64 i)))] σ (selvageref02_Quote.q16 X w0 n R)
def selvageref02_Quote.n17 (X : XT) (w0 : Base) (n : Nat) (R : AV → Store → Prop) (σ : Store) (name : List UInt8) (out : AV) (i : Int) : Prop :=
  X (cAt selvageref02_Quote.code 17) 17 [(0, (.pv (.str name))), (3, out), (4, (.pv (.int .i64 i)))] σ (selvageref02_Quote.q17 X w0 n R)
def selvageref02_Quote.b17 (X : XT) (w0 : Base) (n : Nat) (R : AV → Store → Prop) (σ : Store) (name : List UInt8) (out : AV) (i : Int) : Prop :=
  pcodeX (cx w0) 26 selvageref02_Quote.lv n selvageref02_Quote.cuts X (cAt selvageref02_Quote.code 17) 17 [(0, (.pv (.str name))), (3, out), (4, (.pv (.int .i64 i)))] σ (selvageref02_Quote.q17 X w0 n R)
def selvageref02_Quote.n27 (X : XT) (w0 : Base) (n : Nat) (R : AV → Store → Prop) (σ : Store) (out : AV) : Prop :=
  X (cAt selvageref02_Quote.code 27) 27 [(3, out)] σ (finQ (cx w0) Tryz.f39 n R)
def selvageref02_Quote.b27 (X : XT) (w0 : Base) (n : Nat) (R : AV → Store → Prop) (σ : Store) (out : AV) : Prop :=
  pcodeX (cx w0) 26 selvageref02_Quote.lv n selvageref02_Quote.cuts X (cAt selvageref02_Quote.code 27) 27 [(3, out)] σ (finQ (cx w0) Tryz.f39 n R)
def selvageref02_Quote.b0 (X : XT) (w0 : Base) (n : Nat) (R : AV → Store → Prop) (σ : Store) (name : List UInt8) : Prop :=
  pcodeX (cx w0) 26 selvageref02_Quote.lv n selvageref02_Quote.cuts X selvageref02_Quote.code 0 (argsE 0 [(.pv (.str name))]) σ (finQ (cx w0) Tryz.f39 n R)
theorem selvageref02_Quote.n16_in {w0 : Base} {n : Nat} {R : AV → Store → Prop} {σ : Store} {name : List UInt8} {out : AV} {i : Int} (h : selvageref02_Quote.b17 (selvageref02_Quote.X w0 n) w0 n R σ name out i) : selvageref02_Quote.n16 (selvageref02_Quote.X w0 n) w0 n R σ name out i := xr_round (cxOK w0) (S := selvageref02_Quote.cuts) (by kernel_rfl : cAt selvageref02_Quote.code 16 = .loop (cAt selvageref02_Quote.code 17)) h
theorem selvageref02_Quote.n16_weak {w0 : Base} {n : Nat} {R : AV → Store → Prop} {σ τ : Store} {name : List UInt8} {out : AV} {i : Int} {name' : List UInt8} {out' : AV} {i' : Int} (e : EWeak (cx w0) n [(0, (.pv (.str name))), (3, out), (4, (.pv (.int .i64 i)))] σ [(0, (.pv (.str name'))), (3, out'), (4, (.pv (.int .i64 i')))] τ) (h : selvageref02_Quote.n16 (selvageref02_Quote.X w0 n) w0 n R τ name' out' i') : selvageref02_Quote.n16 (selvageref02_Quote.X w0 n) w0 n R σ name out i := xr_weak (L := selvageref02_Quote.lv) (k := 16) (by kernel_rfl : cAt selvageref02_Quote.code 16 = .loop (cAt selvageref02_Quote.code 17)) e h
theorem selvageref02_Quote.b17_eq (X : XT) (w0 : Base) (n : Nat) (R : AV → Store → Prop) (σ : Store) (name : List UInt8) (out : AV) (i : Int) : selvageref02_Quote.b17 X w0 n R σ name out i = (
  condB (decide ((i : Int) < (List.length (name : List UInt8) : Int))) (opt (aIndex tabS ti9.td (.pv (.str name)) i) fun t19 => isI .u8 t19 fun t19_1 => SCalls (cx w0) selvageref02_escape.id [(.pv (.int .u8 t19_1))] σ fun r σ' => isS r fun t20 => opt2 (aAppend σ' ti5 out (.pv (.str t20))) fun t21 σ'_1 => selvageref02_Quote.n16 X w0 n R σ'_1 name t21 (IntKind.wrap .i64 (i + 1))) (selvageref02_Quote.n27 X w0 n R σ out)) := by kernel_rfl
theorem selvageref02_Quote.n17_in {w0 : Base} {n : Nat} {R : AV → Store → Prop} {σ : Store} {name : List UInt8} {out : AV} {i : Int} (h : selvageref02_Quote.b17 (selvageref02_Quote.X w0 n) w0 n R σ name out i) : selvageref02_Quote.n17 (selvageref02_Quote.X w0 n) w0 n R σ name out i := xr_in (S := selvageref02_Quote.cuts) (by kernel_rfl) h
theorem selvageref02_Quote.b27_eq (X : XT) (w0 : Base) (n : Nat) (R : AV → Store → Prop) (σ : Store) (out : AV) : selvageref02_Quote.b27 X w0 n R σ out = (
  opt2 (aBuildSlice σ ti5 false 1 [(0, (.pv (.int .u8 34)))]) fun t23 σ' => opt2 (aAppend σ' ti5 out t23) fun t24 σ'_1 => opt2 (aConvert σ'_1 tabS ti54.td ti9.td t24) fun t25 σ'_2 => isS t25 fun t25_1 => FinK (cx w0) n (.pv (.str t25_1)) σ'_2 R) := by kernel_rfl
theorem selvageref02_Quote.n27_in {w0 : Base} {n : Nat} {R : AV → Store → Prop} {σ : Store} {out : AV} (h : selvageref02_Quote.b27 (selvageref02_Quote.X w0 n) w0 n R σ out) : selvageref02_Quote.n27 (selvageref02_Quote.X w0 n) w0 n R σ out := xr_in (S := selvageref02_Quote.cuts) (by kernel_rfl) h
theorem selvageref02_Quote.b0_eq (X : XT) (w0 : Base) (n : Nat) (R : AV → Store → Prop) (σ : Store) (name : List UInt8) : selvageref02_Quote.b0 X w0 n R σ name = (
  SCalls (cx w0) selvageref02_Needs.id [(.pv (.str name))] σ fun r σ' => isB r fun t6 => condB (!t6) (FinK (cx w0) n (.pv (.str name)) σ' R) (opt2 (aBuildSlice σ' ti5 true 1 [(0, (.pv (.int .u8 34)))]) fun t9 σ'_1 => selvageref02_Quote.n16 X w0 n R σ'_1 name t9 0)) := by kernel_rfl
theorem selvageref02_Quote.ok (w0 : Base) : FOK (cx w0) selvageref02_Quote.id selvageref02_Quote.fe := ⟨Tryz.func39, by kernel_rfl, by kernel_rfl⟩
theorem selvageref02_Quote.calls {w0 : Base} {R : AV → Store → Prop} {σ : Store} {name : List UInt8} (h : selvageref02_Quote.b0 (selvageref02_Quote.X w0 (List.length σ)) w0 (List.length σ) R σ name) : SCalls (cx w0) selvageref02_Quote.id [(.pv (.str name))] σ R :=
  xr_enter (cxOK w0) (x := selvageref02_Quote.fe) (S := selvageref02_Quote.cuts) (selvageref02_Quote.ok w0) (by kernel_rfl) h
end Go.Sv
