/- Small steps of walks: parts of an operation, an element of a slice, the next round. -/
import Derived.Test.YtgdnoobpnhmpjaaGreatDoorSvZ
set_option linter.unusedVariables false
set_option linter.unusedSimpArgs false
set_option maxRecDepth 100000
namespace Go.Sv
open Go Go.RowKit Go.Proofs
theorem opt_in {α : Type} {x : Option α} {v : α} {k : α → Prop} (h : x = some v) (hk : k v) : opt x k := by rw [h]; exact hk
theorem opt2_in {x : Option (AV × Store)} {v : AV} {s : Store} {k : AV → Store → Prop} (h : x = some (v, s)) (hk : k v s) : opt2 x k := by rw [h]; exact hk
theorem isI_in {kd : IntKind} {n : Int} {k : Int → Prop} (hk : k n) : isI kd (.pv (.int kd n)) k := by rw [isI_int]; exact hk
theorem isB_in {b : Bool} {k : Bool → Prop} (hk : k b) : isB (.pv (.bool b)) k := hk
theorem isS_in {s : List UInt8} {k : List UInt8 → Prop} (hk : k s) : isS (.pv (.str s)) k := hk
theorem isTup_in {vs : List AV} {k : List AV → Prop} (hk : k vs) : isTup (.tup vs) k := hk
theorem wI {kd : IntKind} {a : AV} {n : Int} {k : Int → Prop} (h : a = .pv (.int kd n)) (hk : k n) : isI kd a k := by subst h; exact isI_in hk
theorem wB {a : AV} {b : Bool} {k : Bool → Prop} (h : a = .pv (.bool b)) (hk : k b) : isB a k := by subst h; exact hk
theorem wS {a : AV} {s : List UInt8} {k : List UInt8 → Prop} (h : a = .pv (.str s)) (hk : k s) : isS a k := by subst h; exact hk
theorem wT {a : AV} {vs : List AV} {k : List AV → Prop} (h : a = .tup vs) (hk : k vs) : isTup a k := by subst h; exact hk
theorem wP {a : AV} {i j : Nat} {x : Prop} (h : a = .ptr i j) (hk : x) : ptrK a x := by subst h; exact hk
theorem glob0 {w0 : Base} : ∀ g a, (cx w0).glob g = some a → AV.under 0 a = true := fun g a h => nomatch (show (none : Option AV) = some a from h)
theorem idx_ro {σ : Store} {tab : TypeId → Option TI} {e : TypeId} {ei : TI} {xs : List PV} {k : Nat} {y : PV} (ht : tab e = some ei) (h : xs[k]? = some y) (hs : y.cells.length = ei.size) : aIndexAddr σ tab (.slice e) (.pv (.sl xs)) (k : Int) = some (.ro y 0) := by
  have hk := (List.getElem?_eq_some_iff.1 h).1
  simp only [aIndexAddr, ht]
  rw [if_pos (by omega), Int.toNat_natCast, h]
  simp only [hs, if_true]
theorem wrap_next {k n : Nat} (h : k < n) (hn : n ≤ 9223372036854775806) : IntKind.wrap .i64 ((k : Int) + 1) = ((k + 1 : Nat) : Int) := by
  rw [wrap_i64 (by omega) (by omega)]; push_cast; rfl
theorem idx_str {tab : TypeId → Option TI} {s : List UInt8} {k : Nat} {c : UInt8} (h : s[k]? = some c) : aIndex tab .str (.pv (.str s)) (k : Int) = some (.pv (.int .u8 c.toNat)) := by
  have hk := (List.getElem?_eq_some_iff.1 h).1
  simp only [aIndex]
  rw [if_pos (by omega), Int.toNat_natCast, h]
theorem bytesOf_bytes : ∀ s : List UInt8, bytesOf (bytesPV s) = some s
  | [] => rfl
  | c :: r => by
    have ih := bytesOf_bytes r
    show (match byteOfPV (.int .u8 (c.toNat : Int)), bytesOf (bytesPV r) with
      | some b, some bs => some (b :: bs)
      | _, _ => none) = _
    rw [ih]
    simp [byteOfPV]
theorem append_bytes {σ : Store} {id : Nat} {acc s : List UInt8} {fz : Bool} {x : AV} (e : elems σ x = some (bytesPV s)) (ho : σ[id]? = some (.arr 1 (bytesPV acc) fz)) (hl : acc.length + s.length ≤ 140737488355328) :
    aAppend σ ti5 (.arr id acc.length 0 acc.length) x = some (.arr id (acc ++ s).length 0 (acc ++ s).length, σ.set id (.arr 1 (bytesPV (acc ++ s)) fz)) := by
  have hs : sized ti5.size (bytesPV s) = true := by
    simp only [sized, List.all_eq_true]
    intro x hx
    rw [bytesPV_cells x hx]; rfl
  have hr : roomy ((bytesPV acc).length + (bytesPV s).length) ti5.bytes := by
    rw [bytesPV_length, bytesPV_length]
    exact ⟨hl, by show (acc.length + s.length) * 1 ≤ _; omega⟩
  unfold aAppend
  rw [e]
  simp only [ho]
  rw [if_pos hs, if_pos ⟨bytesPV_length acc, trivial, trivial, rfl, hr⟩, bytesPV_length, bytesPV_length]
  simp [bytesPV]
theorem conv_bytes {σ : Store} {id : Nat} {acc : List UInt8} {fz : Bool} (ho : σ[id]? = some (.arr 1 (bytesPV acc) fz)) : aConvert σ tabS ti95.td ti9.td (.arr id acc.length 0 acc.length) = some (.pv (.str acc), σ) := by
  have e : elems σ (.arr id acc.length 0 acc.length) = some (bytesPV acc) := by
    have := elems_all ho
    rwa [bytesPV_length] at this
  show (match elems σ (.arr id acc.length 0 acc.length) with
    | some xs => (bytesOf xs).map fun b => ((AV.pv (.str b), σ) : AV × Store)
    | none => none) = _
  rw [e]
  simp only [bytesOf_bytes, Option.map_some]
theorem append_pv {σ : Store} {id es ver : Nat} {xs ys : List PV} {fz : Bool} {ei : TI} {x : AV} (e : elems σ x = some ys) (ho : σ[id]? = some (.arr es xs fz)) (hv : ver = xs.length) (hes : es = ei.size) (hs : sized ei.size ys = true) (hr : roomy (xs.length + ys.length) ei.bytes) :
    aAppend σ ei (.arr id ver 0 ver) x = some (.arr id (xs.length + ys.length) 0 (xs.length + ys.length), σ.set id (.arr es (xs ++ ys) fz)) := by
  subst hv
  unfold aAppend
  rw [e]
  simp only [ho]
  rw [if_pos hs, if_pos ⟨trivial, trivial, trivial, hes, hr⟩]
theorem idx_arr {σ : Store} {tab : TypeId → Option TI} {e : TypeId} {ei : TI} {id es ver off len k : Nat} {xs : List PV} {fz : Bool} (ht : tab e = some ei) (ho : σ[id]? = some (.arr es xs fz)) (hk : k < len) (hes : es = ei.size) (hv : xs.length = ver) :
    aIndexAddr σ tab (.slice e) (.arr id ver off len) (k : Int) = some (.eptr id ver (off + k) 0) := by
  simp only [aIndexAddr, ht, ho]
  rw [if_pos ⟨by omega, by omega, hes, hv⟩, Int.toNat_natCast]
end Go.Sv
