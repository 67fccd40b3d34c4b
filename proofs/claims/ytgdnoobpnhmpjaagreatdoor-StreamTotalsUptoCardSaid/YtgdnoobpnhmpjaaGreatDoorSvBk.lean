/- What is read is no greater than its bulk. -/
import Derived.Test.YtgdnoobpnhmpjaaGreatDoorSvY
import Derived.Test.YtgdnoobpnhmpjaaGreatDoorRows
set_option linter.unusedVariables false
set_option linter.unusedSimpArgs false
namespace Go.Sv
open Go Go.Proofs Go.Proofs.YtgdnoobpnhmpjaaGreatDoor
mutual
def pvB : PV → Nat
  | .str s => s.length + 1
  | .sl xs => pvBs xs + 1
  | .agg cs => pvBs cs
  | _ => 1
def pvBs : List PV → Nat
  | [] => 0
  | p :: r => pvB p + pvBs r
end
theorem pvBs_append : ∀ a b : List PV, pvBs (a ++ b) = pvBs a + pvBs b
  | [], b => by simp [pvBs]
  | p :: r, b => by simp [pvBs, pvBs_append r b, Nat.add_assoc]
theorem pvBs_cells (p : PV) : pvBs p.cells = pvB p := by cases p <;> simp [PV.cells, pvBs, pvB]
theorem pvBs_mem : ∀ (l : List PV) (p : PV), p ∈ l → pvB p ≤ pvBs l
  | [], p, h => by simp at h
  | q :: r, p, h => by
    rcases List.mem_cons.1 h with rfl | h
    · simp only [pvBs]; omega
    · have := pvBs_mem r p h; simp only [pvBs]; omega
mutual
theorem pvB_le {H : Type} : ∀ d : DataW H, pvB (toPV d) ≤ Rows.uptoBulk d
  | .lit (.string l) => by simp [toPV, pvB, Rows.uptoBulk]
  | .slice elems sp => by have := pvBs_le elems; simp only [toPV, pvB, Rows.uptoBulk]; omega
  | .agg parts => by have := pvBc_le parts; simp only [toPV, pvB, Rows.uptoBulk]; omega
  | .lit (.int k n) => by simp [toPV, pvB, Rows.uptoBulk]
  | .lit (.bool b) => by simp [toPV, pvB, Rows.uptoBulk]
  | .nil => by simp [toPV, pvB, pvBs, Rows.uptoBulk]
  | .ptr d => by simp [toPV, pvB, pvBs, Rows.uptoBulk]
  | .iface _ d => by simp [toPV, pvB, pvBs, Rows.uptoBulk]
  | .map e => by simp [toPV, pvB, pvBs, Rows.uptoBulk]
  | .held _ => by simp [toPV, pvB, pvBs, Rows.uptoBulk]
  | .lit .nil => by simp [toPV, pvB, pvBs, Rows.uptoBulk]
  | .lit (.float _ _) => by simp [toPV, pvB, pvBs, Rows.uptoBulk]
theorem pvBs_le {H : Type} : ∀ l : List (DataW H), pvBs (toPVs l) ≤ Rows.uptoBulkAll l
  | [] => by simp [toPVs, pvBs]
  | d :: r => by have := pvB_le d; have := pvBs_le r; simp only [toPVs, pvBs, Rows.uptoBulkAll]; omega
theorem pvBc_le {H : Type} : ∀ l : List (DataW H), pvBs (toCells l) ≤ Rows.uptoBulkAll l
  | [] => by simp [toCells, pvBs]
  | d :: r => by have := pvB_le d; have := pvBc_le r; simp only [toCells, pvBs_append, pvBs_cells, Rows.uptoBulkAll]; omega
end
end Go.Sv
