/- Small laws by which a printed piece of code is worked out. No program stands in this text. -/
import Derived.Test.YthkedonibhajbaaDoorSvR
import Derived.Test.YthkedonibhajbaaDoorSvS
set_option linter.unusedVariables false
set_option linter.unusedSimpArgs false
namespace Go.Sv
open Go Go.RowKit

def lvOf (l : List (List Nat)) (k : Nat) : List Nat := match l[k]? with
  | some x => x
  | none => []
abbrev AV.int (n : Int) : AV := .pv (.int .i64 n)
abbrev AV.str (s : List UInt8) : AV := .pv (.str s)
abbrev AV.bool (b : Bool) : AV := .pv (.bool b)
abbrev AV.nilI : AV := .pv (.raw .nilIface)

section
variable {α : Type}
@[simp] theorem opt_some' (v : α) (k : α → Prop) : opt (some v) k = k v := rfl
@[simp] theorem opt_none' (k : α → Prop) : opt none k = False := rfl
@[simp] theorem opt2_some' (v : AV) (s : Store) (k : AV → Store → Prop) : opt2 (some (v, s)) k = k v s := rfl
@[simp] theorem opt2_none' (k : AV → Store → Prop) : opt2 none k = False := rfl
@[simp] theorem isI_int (kd : IntKind) (n : Int) (k : Int → Prop) : isI kd (.pv (.int kd n)) k = k n := by simp [isI]
@[simp] theorem isB_bool (b : Bool) (k : Bool → Prop) : isB (.pv (.bool b)) k = k b := rfl
@[simp] theorem isS_str (s : List UInt8) (k : List UInt8 → Prop) : isS (.pv (.str s)) k = k s := rfl
@[simp] theorem isTup_tup (vs : List AV) (k : List AV → Prop) : isTup (.tup vs) k = k vs := rfl
@[simp] theorem condB_true' (x y : Prop) : condB true x y = x := rfl
@[simp] theorem condB_false' (x y : Prop) : condB false x y = y := rfl
@[simp] theorem condB_not (b : Bool) (x y : Prop) : condB (!b) x y = condB b y x := by cases b <;> rfl
@[simp] theorem condB_decide (p : Prop) [Decidable p] (x y : Prop) : condB (decide p) x y = if p then x else y := by
  by_cases h : p <;> simp [h]
theorem condB_split {b : Bool} {x y : Prop} (h1 : b = true → x) (h2 : b = false → y) : condB b x y := by
  cases b
  · exact h2 rfl
  · exact h1 rfl
theorem condB_beq {β : Type} [BEq β] [LawfulBEq β] [DecidableEq β] (a b : β) (x y : Prop) : condB (a == b) x y = if a = b then x else y := by
  by_cases h : a = b
  · subst h; simp
  · rw [if_neg h, beq_false_of_ne h]; rfl
theorem condB_bne {β : Type} [BEq β] [LawfulBEq β] [DecidableEq β] (a b : β) (x y : Prop) : condB (a != b) x y = if a = b then y else x := by
  by_cases h : a = b
  · subst h; simp
  · rw [if_neg h, bne, beq_false_of_ne h]; rfl
@[simp] theorem condB_ibeq (a b : Int) (x y : Prop) : condB (a == b) x y = if a = b then x else y := condB_beq a b x y
@[simp] theorem condB_ibne (a b : Int) (x y : Prop) : condB (a != b) x y = if a = b then y else x := condB_bne a b x y
@[simp] theorem condB_sbeq (a b : List UInt8) (x y : Prop) : condB (a == b) x y = if a = b then x else y := condB_beq a b x y
theorem ite_split {p : Prop} [Decidable p] {x y : Prop} (h1 : p → x) (h2 : ¬ p → y) : if p then x else y := by
  by_cases h : p
  · rw [if_pos h]; exact h1 h
  · rw [if_neg h]; exact h2 h
end

/-! ### Objects laid behind a store -/
section
variable (σ L : Store) (k : Nat) (x : SObj)
@[simp] theorem get_app : (σ ++ L)[σ.length + k]? = L[k]? := by rw [List.getElem?_append_right (by omega)]; congr 1; omega
@[simp] theorem get_app0 : (σ ++ L)[σ.length]? = L[0]? := get_app σ L 0
@[simp] theorem set_app : (σ ++ L).set (σ.length + k) x = σ ++ L.set k x := by
  rw [List.set_append_right _ _ (by omega)]; congr 2; omega
@[simp] theorem set_app0 : (σ ++ L).set σ.length x = σ ++ L.set 0 x := set_app σ L 0 x
@[simp] theorem len_app1 (a : SObj) : (σ ++ [a]).length = σ.length + 1 := by simp
end
theorem get_old {σ : Store} {id : Nat} {x : SObj} (L : Store) (h : σ[id]? = some x) : (σ ++ L)[id]? = some x := by
  rw [List.getElem?_append_left (List.getElem?_eq_some_iff.1 h).1]; exact h

/-! ### The end of a call -/
section
variable {C : Ctx} {r r' : AV} {σ L : Store} {R : AV → Store → Prop}
theorem fin_keep {n : Nat} (hn : n ≤ σ.length) (h : R r σ) : FinK C n r σ R := FinK.keep hn h
theorem fin_same (h : R r σ) : FinK C σ.length r σ R := FinK.keep (Nat.le_refl _) h
/-- What the call laid itself goes. -/
theorem fin_cut (hC : ∀ g a, C.glob g = some a → AV.under 0 a = true) (hw : wfS σ) (hr : AV.under σ.length r = true) (h : R r σ) : FinK C σ.length r (σ ++ L) R :=
  FinK.cut hC (by simp) (by simp) hw hr h
/-- .. and the slices of it are handed on for good. -/
theorem fin_seal (hC : ∀ g a, C.glob g = some a → AV.under 0 a = true) (hw : wfS σ) (hr : sealR σ.length (σ ++ L) r = some r') (h : R r' σ) : FinK C σ.length r (σ ++ L) R :=
  FinK.sealed hC (by simp) (by simp) hw hr h
end

/-! ### Reading and writing -/
section
variable {σ : Store} {ti : TI}
theorem aLoad_cells {id off : Nat} {ty : TypeId} {cs : List AV} (h : σ[id]? = some (.cells ty cs)) : aLoad σ ti (.ptr id off) = partA ti.td.isAgg ti.size off cs := by simp [aLoad, h]
theorem elems_arr {id ver off len es : Nat} {xs : List PV} {fz : Bool} (h : σ[id]? = some (.arr es xs fz)) (h1 : xs.length = ver) (h2 : off + len ≤ ver) : elems σ (.arr id ver off len) = some ((xs.drop off).take len) := by
  simp [elems, h, h1, h2]
theorem elems_all {id es : Nat} {xs : List PV} {fz : Bool} (h : σ[id]? = some (.arr es xs fz)) : elems σ (.arr id xs.length 0 xs.length) = some xs := by
  simp [elems, h]
@[simp] theorem elems_sl (xs : List PV) : elems σ (.pv (.sl xs)) = some xs := rfl
@[simp] theorem elems_str (s : List UInt8) : elems σ (.pv (.str s)) = some (s.map fun b => .int .u8 b.toNat) := rfl
@[simp] theorem elems_nilsl : elems σ .nilsl = some [] := rfl
end

/-! ### '==' with nil -/
section
variable {tab : TypeId → Option TI} {t : TypeId} {lit : Bool} {k : AV → Prop} {x : AV} {v : Value}
@[simp] theorem eql_raw : aBinK tab t lit .eql x (.pv (.raw v)) k = opt (tab t) fun ti => opt (aEq ti.td lit x (.pv (.raw v))) fun b => k (.pv (.bool b)) := by
  cases x with
  | pv p => cases p <;> rfl
  | _ => rfl
@[simp] theorem neq_raw : aBinK tab t lit .neq x (.pv (.raw v)) k = opt (tab t) fun ti => opt (aEq ti.td lit x (.pv (.raw v))) fun b => k (.pv (.bool !b)) := by
  cases x with
  | pv p => cases p <;> rfl
  | _ => rfl
@[simp] theorem eql_nilsl : aBinK tab t lit .eql x .nilsl k = opt (tab t) fun ti => opt (aEq ti.td lit x .nilsl) fun b => k (.pv (.bool b)) := by
  cases x with
  | pv p => cases p <;> rfl
  | _ => rfl
@[simp] theorem neq_nilsl : aBinK tab t lit .neq x .nilsl k = opt (tab t) fun ti => opt (aEq ti.td lit x .nilsl) fun b => k (.pv (.bool !b)) := by
  cases x with
  | pv p => cases p <;> rfl
  | _ => rfl
@[simp] theorem eql_bool {a b : Bool} : aBinK tab t lit .eql (.pv (.bool a)) (.pv (.bool b)) k = opt (tab t) fun ti => opt (aEq ti.td lit (.pv (.bool a)) (.pv (.bool b))) fun b => k (.pv (.bool b)) := rfl
@[simp] theorem neq_bool {a b : Bool} : aBinK tab t lit .neq (.pv (.bool a)) (.pv (.bool b)) k = opt (tab t) fun ti => opt (aEq ti.td lit (.pv (.bool a)) (.pv (.bool b))) fun b => k (.pv (.bool !b)) := rfl
@[simp] theorem aEq_iface_nil {m : Nat} : aEq (.iface m) true (.pv (.raw .nilIface)) (.pv (.raw .nilIface)) = some true := rfl
@[simp] theorem aEq_iface_some {m : Nat} {u : TypeId} {p : PV} : aEq (.iface m) lit (.pv (.iface u p)) (.pv (.raw .nilIface)) = some false := rfl
end

/-! ### Numbers that fit -/
theorem wrap_i64 {n : Int} (h1 : -9223372036854775808 ≤ n) (h2 : n ≤ 9223372036854775807) : IntKind.wrap .i64 n = n := by
  unfold IntKind.wrap
  have e1 : (2 : Int) ^ IntKind.i64.bits = 18446744073709551616 := by decide
  have e2 : (2 : Int) ^ (IntKind.i64.bits - 1) = 9223372036854775808 := by decide
  simp only [e1, e2, IntKind.signed, Bool.true_and, decide_eq_true_eq]
  split <;> omega
theorem wrap_u8 {n : Int} (h1 : 0 ≤ n) (h2 : n ≤ 255) : IntKind.wrap .u8 n = n := by
  simp only [IntKind.wrap, IntKind.bits, IntKind.signed]
  have : (2 : Int) ^ 8 = 256 := by decide
  simp only [this]
  simp
  omega
end Go.Sv
