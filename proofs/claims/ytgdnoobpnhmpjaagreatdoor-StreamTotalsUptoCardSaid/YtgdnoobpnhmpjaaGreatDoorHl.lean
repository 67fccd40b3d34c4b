/- Hunks that a machine holds: a statement's data as hunks, and their bulk. -/
import Derived.Test.YtgdnoobpnhmpjaaGreatDoorHk
import Derived.Test.YtgdnoobpnhmpjaaGreatDoorSvBk
set_option linter.unusedVariables false
set_option linter.unusedSimpArgs false
set_option maxRecDepth 100000
namespace Go.Sv
open Go Go.RowKit Go.Proofs
structure HnkOK (h : Hnk) : Prop where
  rows : h.rows.length ≤ 1048576
  text : ∀ x ∈ h.rows, x.t.length ≤ 1048576
  head : h.head.length ≤ 1048576
  a : -9223372036854775808 ≤ h.a ∧ h.a ≤ 9223372036854775807
  b : -9223372036854775808 ≤ h.b ∧ h.b ≤ 9223372036854775807
open Go.Proofs.YtgdnoobpnhmpjaaGreatDoor in
theorem row_list {d : Nat} : ∀ xs : List PV, (∀ x ∈ xs, hasT tabS (d + 2) 79 x) → ∃ l : List Row, xs = l.map rowP
  | [], _ => ⟨[], rfl⟩
  | x :: r, h => by
    obtain ⟨l, rfl⟩ := row_list r fun y hy => h y (List.mem_cons_of_mem _ hy)
    obtain ⟨qs, rfl, g⟩ := hasT_struct tab79 ti79_td (h x (by simp))
    clear h
    obtain ⟨_, qs, rfl, h1, h⟩ := fields_cons g
    obtain ⟨_, qs, rfl, h2, h⟩ := fields_cons h
    obtain rfl := fields_nil h
    obtain ⟨k, rfl, _⟩ := hasT_int tab3 ti3_td h1
    obtain ⟨s, rfl, _⟩ := hasT_str tab9 ti9_td h2
    exact ⟨⟨k, s⟩ :: l, rfl⟩
theorem wf_i64 {n : Int} (h : (Lit.int .i64 n).wf = true) : -9223372036854775808 ≤ n ∧ n ≤ 9223372036854775807 := by
  simp only [Lit.wf, Bool.and_eq_true, decide_eq_true_eq] at h
  have e1 : IntKind.min .i64 = -9223372036854775808 := by decide
  have e2 : IntKind.max .i64 = 9223372036854775807 := by decide
  rw [e1, e2] at h
  exact h
theorem hnk_list {d : Nat} : ∀ xs : List PV, (∀ x ∈ xs, hasT tabS (d + 4) 46 x) → ∃ l : List Hnk, xs = l.map hnkP ∧ ∀ h ∈ l, (-9223372036854775808 ≤ h.a ∧ h.a ≤ 9223372036854775807) ∧ (-9223372036854775808 ≤ h.b ∧ h.b ≤ 9223372036854775807)
  | [], _ => ⟨[], rfl, fun h hh => by simp at hh⟩
  | x :: r, h => by
    obtain ⟨l, rfl, hl⟩ := hnk_list r fun y hy => h y (List.mem_cons_of_mem _ hy)
    obtain ⟨qs, rfl, g⟩ := hasT_struct tab46 ti46_td (h x (by simp))
    clear h
    obtain ⟨_, qs, rfl, h1, h⟩ := fields_cons g
    obtain ⟨_, qs, rfl, h2, h⟩ := fields_cons h
    obtain ⟨_, qs, rfl, h3, h⟩ := fields_cons h
    obtain ⟨_, qs, rfl, h4, h⟩ := fields_cons h
    obtain ⟨_, qs, rfl, h5, h⟩ := fields_cons h
    obtain ⟨_, qs, rfl, h6, h⟩ := fields_cons h
    obtain rfl := fields_nil h
    obtain ⟨a, rfl, wa⟩ := hasT_int tab3 ti3_td h1
    obtain ⟨n, rfl, _⟩ := hasT_int tab3 ti3_td h2
    obtain ⟨b, rfl, wb⟩ := hasT_int tab3 ti3_td h3
    obtain ⟨m, rfl, _⟩ := hasT_int tab3 ti3_td h4
    obtain ⟨s, rfl, _⟩ := hasT_str tab9 ti9_td h5
    obtain ⟨ys, rfl, hy⟩ := hasT_slice tab43 ti43_td h6
    obtain ⟨rs, rfl⟩ := row_list ys hy
    refine ⟨⟨a, n, b, m, s, rs⟩ :: l, rfl, fun h hh => ?_⟩
    rcases List.mem_cons.1 hh with rfl | hh
    · exact ⟨wf_i64 wa, wf_i64 wb⟩
    · exact hl h hh
theorem rows_bulk : ∀ l : List Row, l.length ≤ pvBs (l.map rowP) ∧ ∀ x ∈ l, x.t.length ≤ pvBs (l.map rowP)
  | [] => ⟨Nat.zero_le _, fun x h => by simp at h⟩
  | c :: r => by
    obtain ⟨h1, h2⟩ := rows_bulk r
    simp only [List.map_cons, pvBs, pvB, List.length_cons]
    refine ⟨by omega, fun x hx => ?_⟩
    rcases List.mem_cons.1 hx with rfl | hx
    · omega
    · have := h2 x hx; omega
theorem hnk_bulk (h : Hnk) : h.rows.length ≤ pvB (hnkP h) ∧ (∀ x ∈ h.rows, x.t.length ≤ pvB (hnkP h)) ∧ h.head.length ≤ pvB (hnkP h) := by
  obtain ⟨h1, h2⟩ := rows_bulk h.rows
  simp only [pvB, pvBs]
  exact ⟨by omega, fun x hx => by have := h2 x hx; omega, by omega⟩
theorem hnks_bulk : ∀ l : List Hnk, l.length ≤ pvBs (l.map hnkP)
  | [] => Nat.zero_le _
  | c :: r => by
    have := hnks_bulk r
    simp only [List.map_cons, pvBs, pvB, List.length_cons]
    omega
theorem hnks_ok {l : List Hnk} {B : Nat} (hB : B ≤ 1048576) (hb : pvBs (l.map hnkP) ≤ B) (hl : ∀ h ∈ l, (-9223372036854775808 ≤ h.a ∧ h.a ≤ 9223372036854775807) ∧ (-9223372036854775808 ≤ h.b ∧ h.b ≤ 9223372036854775807)) : l.length ≤ 1048576 ∧ ∀ h ∈ l, HnkOK h := by
  refine ⟨by have := hnks_bulk l; omega, fun h hh => ?_⟩
  have h0 := pvBs_mem _ _ (List.mem_map_of_mem (f := hnkP) hh)
  obtain ⟨h1, h2, h3⟩ := hnk_bulk h
  exact ⟨by omega, fun x hx => by have := h2 x hx; omega, by omega, (hl h hh).1, (hl h hh).2⟩
end Go.Sv
