/- The machine's own search for a byte, as a call over stores; computed runs that meet it. -/
import Derived.Test.YtgdnoobpnhmpjaaGreatDoorSvW
import Derived.Lib.Bytealg
import Derived.Laws.Externs
import Derived.KernelRfl
set_option linter.unusedVariables false
set_option maxRecDepth 100000
namespace Go.Sv
open Go Go.RowKit Go.Shelf Go.Proofs
theorem xIndexByte_spec {w0 : Base} {σ : Store} {R : AV → Store → Prop} {s : List UInt8} {c : UInt8} (hR : R (.pv (.int .i64 (Lib.indexByte s c))) σ) : SCalls (cx w0) bytealg_IndexByteString.id [.pv (.str s), .pv (.int .u8 c.toNat)] σ R :=
  SCalls.prim fun m K w vs hB hv => by
    obtain ⟨x, y, rfl, hx, hy⟩ := hv.two
    obtain rfl := hx.str_inv
    obtain rfl := hy.int_inv
    have h1 := run_callFunc_extern (e := Extern.BytealgIndexByte.indexByte) Tryz.func131 (by kernel_rfl) (by kernel_rfl) (by kernel_rfl) (by kernel_rfl) #[.string ⟨s.toArray⟩, .int .u8 (c.toNat : Int)] w
    rw [Lib.run_indexByteString, show ((c.toNat : Int)).toNat.toUInt8 = c by simp] at h1
    exact ⟨_, _, w, h1, Below.refl _ _, .pv _ _ (.int _ _), hR⟩
theorem pxIndexByte_ok {w0 : Base} : POK (cx w0) bytealg_IndexByteString.id pIndexByte := by
  intro args σ r σ' h R hR
  unfold pIndexByte at h
  split at h
  · rename_i s n
    split at h
    · rename_i hc
      simp only [Bool.and_eq_true, decide_eq_true_eq] at hc
      cases h
      have e : ((UInt8.ofNat n.toNat).toNat : Int) = n := by rw [UInt8.toNat_ofNat']; omega
      have := xIndexByte_spec (w0 := w0) (s := s) (c := UInt8.ofNat n.toNat) hR
      rw [e] at this
      exact this
    · cases h
  · cases h
def primsX : List (FuncId × (List AV → Store → Option (AV × Store))) := (bytealg_IndexByteString.id, pIndexByte) :: prims
theorem primsX_ok {w0 : Base} (L : Laid w0.w) : PsOK (cx w0) primsX := ⟨pxIndexByte_ok, prims_ok L⟩
end Go.Sv
