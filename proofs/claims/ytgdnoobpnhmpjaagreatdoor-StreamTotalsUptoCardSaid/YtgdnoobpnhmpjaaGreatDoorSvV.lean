/- Small steps of walks: parts of an operation, an element of a slice, the next round. -/
import Derived.Test.YtgdnoobpnhmpjaaGreatDoorSvZ
set_option linter.unusedVariables false
set_option linter.unusedSimpArgs false
set_option maxRecDepth 100000
namespace Go.Sv
open Go Go.RowKit Go.Proofs
theorem opt_in {α : Type} {x : Option α} {v : α} {k : α → Prop} (h : x = some v) (hk : k v) : opt x k := by rw [h]; exact hk
theorem opt2_in {x : Option (AV × Store)} {v : AV} {s : Store} {k : AV → Store → Prop} (h : x = some (v, s)) (hk : k v s) : opt2 x k := by rw [h]; exact hk
theorem isI_in {kd : IntKind} {n : Int} {k : Int → Prop} (hk : k n) : isI kd (.pv (.int kd n)) k := by rw [isI_int]; exact hk
theorem isB_in {b : Bool} {k : Bool → Prop} (hk : k b) : isB (.pv (.bool b)) k := hk
theorem isS_in {s : List UInt8} {k : List UInt8 → Prop} (hk : k s) : isS (.pv (.str s)) k := hk
theorem wI {kd : IntKind} {a : AV} {n : Int} {k : Int → Prop} (h : a = .pv (.int kd n)) (hk : k n) : isI kd a k := by subst h; exact isI_in hk
theorem wB {a : AV} {b : Bool} {k : Bool → Prop} (h : a = .pv (.bool b)) (hk : k b) : isB a k := by subst h; exact hk
theorem wS {a : AV} {s : List UInt8} {k : List UInt8 → Prop} (h : a = .pv (.str s)) (hk : k s) : isS a k := by subst h; exact hk
theorem wT {a : AV} {vs : List AV} {k : List AV → Prop} (h : a = .tup vs) (hk : k vs) : isTup a k := by subst h; exact hk
theorem wP {a : AV} {i j : Nat} {x : Prop} (h : a = .ptr i j) (hk : x) : ptrK a x := by subst h; exact hk
theorem glob0 {w0 : Base} : ∀ g a, (cx w0).glob g = some a → AV.under 0 a = true := fun g a h => nomatch (show (none : Option AV) = some a from h)
theorem idx_ro {σ : Store} {tab : TypeId → Option TI} {e : TypeId} {ei : TI} {xs : List PV} {k : Nat} {y : PV} (ht : tab e = some ei) (h : xs[k]? = some y) (hs : y.cells.length = ei.size) : aIndexAddr σ tab (.slice e) (.pv (.sl xs)) (k : Int) = some (.ro y 0) := by
  have hk := (List.getElem?_eq_some_iff.1 h).1
  simp only [aIndexAddr, ht]
  rw [if_pos (by omega), Int.toNat_natCast, h]
  simp only [hs, if_true]
theorem drop_facts {α : Type} {xs : List α} {k : Nat} {c : α} {r : List α} (h : xs.drop k = c :: r) : xs[k]? = some c ∧ xs.drop (k + 1) = r ∧ k < xs.length := by
  have h0 : (xs.drop k)[0]? = some c := by rw [h]; rfl
  rw [List.getElem?_drop] at h0
  refine ⟨by simpa using h0, ?_, ?_⟩
  · have := congrArg (List.drop 1) h
    rw [List.drop_drop] at this
    simpa using this
  · have := (List.getElem?_eq_some_iff.1 h0).1
    simpa using this
theorem drop_end {α : Type} {xs : List α} {k : Nat} (h : xs.drop k = []) : xs.length ≤ k := by simpa using h
theorem wrap_next {k n : Nat} (h : k < n) (hn : n ≤ 9223372036854775806) : IntKind.wrap .i64 ((k : Int) + 1) = ((k + 1 : Nat) : Int) := by
  rw [wrap_i64 (by omega) (by omega)]; push_cast; rfl
theorem idx_str {tab : TypeId → Option TI} {s : List UInt8} {k : Nat} {c : UInt8} (h : s[k]? = some c) : aIndex tab .str (.pv (.str s)) (k : Int) = some (.pv (.int .u8 c.toNat)) := by
  have hk := (List.getElem?_eq_some_iff.1 h).1
  simp only [aIndex]
  rw [if_pos (by omega), Int.toNat_natCast, h]
end Go.Sv
