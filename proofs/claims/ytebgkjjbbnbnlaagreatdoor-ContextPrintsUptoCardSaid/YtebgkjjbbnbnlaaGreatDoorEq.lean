/- Rows and names that are the same; hunks that are appended to a row. -/
import Derived.Test.YtebgkjjbbnbnlaaGreatDoorHk
set_option linter.unusedVariables false
set_option linter.unusedSimpArgs false
set_option maxRecDepth 100000
namespace Go.Sv
section
open Go Go.RowKit Go.Proofs
variable {w0 : Base} {σ : Store} {R : AV → Store → Prop}
theorem neq_eq {t : TypeId} {ti : TI} {cs : List PV} (ht : tabS t = some ti) (e : aEqT tabS ti false (.pv (.agg cs)) (.pv (.agg cs)) = some true) {k : AV → Prop} (hk : k (.pv (.bool false))) : aBinK tabS t false .neq (.pv (.agg cs)) (.pv (.agg cs)) k := by
  unfold aBinK
  exact opt_in ht (opt_in e hk)
theorem eq_row (r : Row) : eqCells tabS 0 [(0, 3), (1, 9)] [.int .i64 r.k, .str r.t] [.int .i64 r.k, .str r.t] = some true := by
  have h : eqCells tabS 0 [(0, 3), (1, 9)] [.int .i64 r.k, .str r.t] [.int .i64 r.k, .str r.t] = some ((r.k == r.k) && ((r.t == r.t) && true)) := rfl
  rw [h]; simp
abbrev hkS (hs : List Hnk) : Store := [.arr 6 (hs.map hnkP) false]
abbrev hkA (hs : List Hnk) : AV := .arr 0 hs.length 0 hs.length
theorem hk_seal (hs : List Hnk) : sealR 0 ([] ++ hkS hs) (hkA hs) = some (.pv (.sl (hs.map hnkP))) := by
  show (if (hs.map hnkP).length = hs.length ∧ 0 + hs.length ≤ hs.length then some (AV.pv (.sl (((hs.map hnkP).drop 0).take hs.length))) else none) = _
  rw [if_pos ⟨List.length_map _, by omega⟩]
  simp [List.take_of_length_le]
theorem rows_sized : ∀ l : List Row, sized 2 (l.map rowP) = true := by
  intro l
  simp only [sized, List.all_eq_true, List.mem_map]
  rintro x ⟨r, _, rfl⟩
  rfl
theorem own_rows {l : List Row} (hl : l.length ≤ 1048576) : aAppendB true σ ti51 .nilsl (.pv (rowsP l)) = some (.pv (rowsP l), σ) := by
  show (if sized 2 (l.map rowP) = true ∧ roomy (l.map rowP).length ti51.bytes then _ else _) = _
  rw [if_pos ⟨rows_sized l, by rw [List.length_map]; exact ⟨by omega, by show l.length * 24 ≤ _; omega⟩⟩]
end
end Go.Sv
