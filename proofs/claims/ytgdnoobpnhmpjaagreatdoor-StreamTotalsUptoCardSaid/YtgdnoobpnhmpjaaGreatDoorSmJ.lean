/- Lines put together again: the library's Join over a row of lines, as a call and as a step of a computed run. -/
import Derived.Test.YtgdnoobpnhmpjaaGreatDoorSmN
import Derived.Test.YtgdnoobpnhmpjaaGreatDoorHk
import Derived.Test.YtgdnoobpnhmpjaaGreatDoorSvT
import Derived.KernelRfl
import Derived.Test.YtgdnoobpnhmpjaaGreatDoorSvV
import Derived.Lib.ItoaLen
import Derived.Test.YtgdnoobpnhmpjaaGreatDoorSvE
set_option linter.unusedVariables false
set_option linter.unusedSimpArgs false
set_option maxRecDepth 100000
namespace Go.Sv
open Go Go.RowKit Go.Proofs
section
variable {w0 : Base} {σ : Store} {R : AV → Store → Prop}
theorem flat_strs : ∀ L : List Ln, flat (L.map PV.str) = L.map PV.str
  | [] => rfl
  | s :: r => by
    have ih := flat_strs r
    unfold flat at *
    rw [List.map_cons, List.flatMap_cons, ih]
    rfl
theorem join_flat : ∀ xs : List (List UInt8), Lib.join xs [] = xs.flatten
  | [] => rfl
  | x :: r => by
    rw [Lib.join_cons, List.flatten_cons]
    congr 1
    unfold Lib.joinTail
    induction r with
    | nil => rfl
    | cons y r ih => rw [List.map_cons, List.flatten_cons, List.flatten_cons, ih, List.nil_append]
theorem bytes_of (L : List Ln) : ((L.map fun s => (⟨s.toArray⟩ : ByteArray)).map (·.data.toList)) = L := by
  rw [List.map_map]
  induction L with
  | nil => rfl
  | cons x r ih => rw [List.map_cons, ih]; rfl
theorem sJoin_spec {id off len : Nat} {fz : Bool} {L : List Ln} (ho : σ[id]? = some (.arr 1 (L.map PV.str) fz)) (hol : off + len ≤ L.length) (hN : L.length ≤ 140737488355328) (hlen : ((L.drop off).take len).flatten.length ≤ 140737488355328)
    (hR : R (.pv (.str ((L.drop off).take len).flatten)) σ) : SCalls (cx w0) strings_Join.id [.arr id L.length off len, .pv (.str [])] σ R := by
  refine SCalls.below (C := cx w0) (enters Tryz.func83 (by kernel_rfl) (by kernel_rfl)) (fun m K w v hB hv => ?_)
  obtain ⟨x, y, rfl, hx, hy⟩ := hv.two
  obtain rfl := hy.str_inv
  have none : ∀ a c, len = 0 → Calls (cx w0).P strings_Join.id #[.slice a 0 c, .string ⟨#[]⟩] w fun e w' => ∃ v r, e = .returned v ∧ Below w.heap.size w w' ∧ ARep m K r v ∧ R r σ := by
    intro a c h0
    subst h0
    refine (Tryz.strings_Join_none a c ⟨#[]⟩ w).mono ?_
    rintro e w' ⟨rfl, rfl⟩
    exact ⟨_, _, rfl, Below.refl _ _, .pv _ _ (.str _), hR⟩
  rcases hx.arr_inv with ⟨b, cap, es', c, ad, rfl, hm, hcc, hl, hv2, ha⟩ | ⟨_, _, h0, rfl, _⟩
  · by_cases h0 : len = 0
    · have := none ad c h0
      rw [← h0] at this
      exact this
    · have hm' : m id (L.map PV.str).length = some (.at b cap es') := by rw [List.length_map]; exact hm
      obtain ⟨rfl, arr, ty, fr, hh, hcap, hmax, hasz, hes, hcr, _, _⟩ := hB.arr_open ho hm'
      rw [List.length_map] at hcap
      have had : ad = some ⟨b, off * 1, Option.none⟩ := by
        rcases ha with h | h
        · omega
        · exact h
      subst had
      have hxl : (((L.drop off).take len).map fun s => (⟨s.toArray⟩ : ByteArray)).length = len := by rw [List.length_map, List.length_take, List.length_drop]; omega
      have key := Tryz.strings_Join b (off * 1) c (((L.drop off).take len).map fun s => (⟨s.toArray⟩ : ByteArray)) ⟨#[]⟩ w (fun j x hj => by
        rw [List.getElem?_map, Option.map_eq_some_iff] at hj
        obtain ⟨s, hs, rfl⟩ := hj
        rw [List.getElem?_take] at hs
        split at hs
        · rw [List.getElem?_drop] at hs
          have hp : (flat (L.map PV.str))[off + j]? = some (.str s) := by rw [flat_strs, List.getElem?_map, hs]; rfl
          have hja : off + j < arr.size := by
            have := (List.getElem?_eq_some_iff.1 hs).1
            omega
          have := (hcr _ _ arr[off + j] hp (Array.getElem?_eq_getElem hja)).1
          rw [Nat.mul_one, cell_heap w b _ hh, Array.getElem?_eq_getElem hja]
          rw [this.str_inv]
        · cases hs) (Array.getElem?_eq_some_iff.1 hh).1 (by rw [hxl]; omega) (by rw [hxl]; omega) (by rw [bytes_of, join_flat]; exact hlen)
      rw [hxl, bytes_of, join_flat] at key
      refine key.mono ?_
      rintro e w' ⟨rfl, hb⟩
      exact ⟨_, _, rfl, hb, .pv _ _ (.str _), hR⟩
  · exact none Option.none 0 h0
def strsOf : List PV → Option (List Ln)
  | [] => some []
  | .str s :: r => match strsOf r with
    | some L => some (s :: L)
    | none => none
  | _ => none
theorem strsOf_map : ∀ {xs : List PV} {L : List Ln}, strsOf xs = some L → xs = L.map PV.str
  | [], L, h => by cases h; rfl
  | x :: r, L, h => by
    cases x with
    | str s =>
      simp only [strsOf] at h
      split at h
      · rename_i L' e'
        cases h
        rw [strsOf_map e']
        rfl
      · cases h
    | _ => exact nomatch (show (none : Option (List Ln)) = some L from h)
def pJoin : List AV → Store → Option (AV × Store)
  | [.arr id ver off len, .pv (.str [])], σ => match σ[id]? with
    | some (.arr 1 xs _) => match Nat.beq xs.length ver && Nat.ble (off + len) ver && Nat.ble ver 1048576, strsOf xs with
      | true, some L => match Nat.ble ((L.drop off).take len).flatten.length 1048576 with
        | true => some (.pv (.str ((L.drop off).take len).flatten), σ)
        | false => none
      | _, _ => none
    | _ => none
  | _, _ => none
theorem pJoin_ok : POK (cx w0) strings_Join.id pJoin := by
  intro args σ r σ' h R hR
  unfold pJoin at h
  split at h
  · rename_i id ver off len
    split at h
    · rename_i xs fz ho
      split at h
      · rename_i L hc hL
        split at h
        · rename_i hf
          cases h
          have e := strsOf_map hL
          subst e
          simp only [Bool.and_eq_true] at hc
          have h1 := Nat.eq_of_beq_eq_true hc.1.1
          have h2 := Nat.le_of_ble_eq_true hc.1.2
          have h3 := Nat.le_of_ble_eq_true hc.2
          have h4 := Nat.le_of_ble_eq_true hf
          rw [List.length_map] at h1
          subst h1
          exact sJoin_spec ho h2 (by omega) (by omega) hR
        · cases h
      · cases h
    · cases h
  · cases h
theorem xCount_spec {s : Ln} {c : UInt8} (hR : R (.pv (.int .i64 (s.count c : Nat))) σ) : SCalls (cx w0) bytealg_CountString.id [.pv (.str s), .pv (.int .u8 c.toNat)] σ R :=
  SCalls.prim fun m K w vs hB hv => by
    obtain ⟨x, y, rfl, hx, hy⟩ := hv.two
    obtain rfl := hx.str_inv
    obtain rfl := hy.int_inv
    have h1 := run_callFunc_extern (e := Extern.BytealgCount.count) Tryz.func163 (by kernel_rfl) (by kernel_rfl) (by kernel_rfl) (by kernel_rfl) #[.string ⟨s.toArray⟩, .int .u8 (c.toNat : Int)] w
    rw [Lib.run_countString, show ((c.toNat : Int)).toNat.toUInt8 = c by simp] at h1
    exact ⟨_, _, w, h1, Below.refl _ _, .pv _ _ (.int _ _), hR⟩
def pCount : List AV → Store → Option (AV × Store)
  | [.pv (.str s), .pv (.int .u8 n)], σ => match decide (0 ≤ n) && decide (n ≤ 255) with
    | true => some (.pv (.int .i64 (s.count (UInt8.ofNat n.toNat) : Nat)), σ)
    | false => none
  | _, _ => none
theorem pCount_ok : POK (cx w0) bytealg_CountString.id pCount := by
  intro args σ r σ' h R hR
  unfold pCount at h
  split at h
  · rename_i s n
    split at h
    · rename_i hc
      simp only [Bool.and_eq_true, decide_eq_true_eq] at hc
      cases h
      have e : ((UInt8.ofNat n.toNat).toNat : Int) = n := by rw [UInt8.toNat_ofNat']; omega
      have := xCount_spec (w0 := w0) (s := s) (c := UInt8.ofNat n.toNat) hR
      rw [e] at this
      exact this
    · cases h
  · cases h
def primsJ : List (FuncId × (List AV → Store → Option (AV × Store))) := (strings_Join.id, pJoin) :: (bytealg_CountString.id, pCount) :: primsX
theorem primsJ_ok {w0 : Base} (L : Laid w0.w) : PsOK (cx w0) primsJ := ⟨pJoin_ok, pCount_ok, primsX_ok L⟩
theorem run_callsJ {w0 : Base} (L : Laid w0.w) {T : List (FuncId × FE)} (hT : FEsOK (cx w0) T) {depth fuel : Nat} {f : FuncId} {args : List AV} {σ : Store} {r : AV} {σ' : Store} (h : rcall (cx w0) (feTab T) (primOf primsJ) depth fuel f args σ = some (r, σ')) {R : AV → Store → Prop} (hR : R r σ') : SCalls (cx w0) f args σ R :=
  (rcall_in fuel (cxOK w0) (cxG w0) (feTab_ok T hT) (prims_all L fun w1 L1 => primsJ_ok L1)).here f args σ r σ' h R hR
end
end Go.Sv
