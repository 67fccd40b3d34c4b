/- Sections that a machine holds: a statement's data as sections, and their bulk; the law StreamTotals at them. -/
import Derived.Test.YtgdnoobpnhmpjaaGreatDoorSmTt
import Derived.Test.YtgdnoobpnhmpjaaGreatDoorHl
set_option linter.unusedVariables false
set_option linter.unusedSimpArgs false
set_option maxRecDepth 100000
namespace Go.Sv
open Go Go.RowKit Go.Proofs
open Go.Proofs.YtgdnoobpnhmpjaaGreatDoor in
theorem nm_data {d : Nat} {q : PV} (h : hasT tabS (d + 2) 28 q) : ∃ p s, q = .agg [.str p, .str s] := by
  obtain ⟨qs, rfl, g⟩ := hasT_struct tab28 ti28_td h
  obtain ⟨_, qs, rfl, h1, h⟩ := fields_cons g
  obtain ⟨_, qs, rfl, h2, h⟩ := fields_cons h
  obtain rfl := fields_nil h
  obtain ⟨p, rfl, _⟩ := hasT_str tab9 ti9_td h1
  obtain ⟨s, rfl, _⟩ := hasT_str tab9 ti9_td h2
  exact ⟨p, s, rfl⟩
open Go.Proofs.YtgdnoobpnhmpjaaGreatDoor in
theorem sec_list {d : Nat} : ∀ xs : List PV, (∀ x ∈ xs, hasT tabS (d + 6) 31 x) → ∃ l : List Sec, xs = l.map secP ∧ ∀ s ∈ l, ∀ h ∈ s.hs, (-9223372036854775808 ≤ h.a ∧ h.a ≤ 9223372036854775807) ∧ (-9223372036854775808 ≤ h.b ∧ h.b ≤ 9223372036854775807)
  | [], _ => ⟨[], rfl, fun s hs => by simp at hs⟩
  | x :: r, h => by
    obtain ⟨l, rfl, hl⟩ := sec_list r fun y hy => h y (List.mem_cons_of_mem _ hy)
    obtain ⟨qs, rfl, g⟩ := hasT_struct tab31 ti31_td (h x (by simp))
    clear h
    obtain ⟨_, qs, rfl, h1, h⟩ := fields_cons g
    obtain ⟨_, qs, rfl, h2, h⟩ := fields_cons h
    obtain ⟨_, qs, rfl, h3, h⟩ := fields_cons h
    obtain ⟨_, qs, rfl, h4, h⟩ := fields_cons h
    obtain ⟨_, qs, rfl, h5, h⟩ := fields_cons h
    obtain ⟨_, qs, rfl, h6, h⟩ := fields_cons h
    obtain ⟨_, qs, rfl, h7, h⟩ := fields_cons h
    obtain rfl := fields_nil h
    obtain ⟨f, rfl, _⟩ := hasT_int tab3 ti3_td h1
    obtain ⟨op, os, rfl⟩ := nm_data h2
    obtain ⟨np, ns, rfl⟩ := nm_data h3
    obtain ⟨ix, rfl, _⟩ := hasT_str tab9 ti9_td h4
    obtain ⟨ys, rfl, hy⟩ := hasT_slice tab29 ti29_td h5
    obtain ⟨ed, rfl, _⟩ := hasT_str tab9 ti9_td h6
    obtain ⟨ln, rfl, _⟩ := hasT_int tab3 ti3_td h7
    obtain ⟨hs, rfl, hh⟩ := hnk_list ys hy
    refine ⟨⟨f, op, os, np, ns, ix, hs, ed, ln⟩ :: l, rfl, fun s hs => ?_⟩
    rcases List.mem_cons.1 hs with rfl | hs
    · exact hh
    · exact hl s hs
theorem secs_bulk : ∀ l : List Sec, l.length ≤ pvBs (l.map secP)
  | [] => Nat.zero_le _
  | c :: r => by
    have := secs_bulk r
    simp only [List.map_cons, pvBs, pvB, List.length_cons]
    omega
theorem secs_ok {l : List Sec} {B : Nat} (hB : B ≤ 1048576) (hb : pvBs (l.map secP) ≤ B) (hl : ∀ s ∈ l, ∀ h ∈ s.hs, (-9223372036854775808 ≤ h.a ∧ h.a ≤ 9223372036854775807) ∧ (-9223372036854775808 ≤ h.b ∧ h.b ≤ 9223372036854775807)) : l.length ≤ 1048576 ∧ ∀ s ∈ l, SecOK s := by
  refine ⟨by have := secs_bulk l; omega, fun s hs => ?_⟩
  have h0 := pvBs_mem _ _ (List.mem_map_of_mem (f := secP) hs)
  simp only [pvB, pvBs] at h0
  obtain ⟨g1, g2⟩ := hnks_ok (B := 1048576) (Nat.le_refl _) (l := s.hs) (by omega) (hl s hs)
  exact ⟨g1, g2⟩
open Go.Proofs.YtgdnoobpnhmpjaaGreatDoor in
theorem secs_data {H : Type} {d0 : DataW H} {ds : List (DataW H)} (hT : hasT tabS 12 22 (toPV d0)) (hk : Rows.uptoSmall H (d0 :: ds) = true) : ∃ l : List Sec, toPV d0 = .sl (l.map secP) ∧ l.length ≤ 1048576 ∧ ∀ s ∈ l, SecOK s := by
  obtain ⟨xs, e, hx⟩ := hasT_slice tab22 ti22_td hT
  obtain ⟨l, rfl, hl⟩ := sec_list xs hx
  have hb : Rows.uptoBulkAll (d0 :: ds) ≤ 1048576 := of_decide_eq_true hk
  have h0 := pvB_le d0
  simp only [Rows.uptoBulkAll] at hb
  rw [e] at h0
  simp only [pvB] at h0
  obtain ⟨g1, g2⟩ := secs_ok (B := 1048576) (Nat.le_refl _) (by omega) hl
  exact ⟨l, e, g1, g2⟩
open Go.Proofs.YtgdnoobpnhmpjaaGreatDoor in
theorem StreamTotals_spec {w0 : Base} (L : Laid w0.w) {H : Type} {d0 : DataW H} {ds : List (DataW H)} (hT : hasT tabS 12 22 (toPV d0)) (hk : Rows.uptoSmall H (d0 :: ds) = true) : SCalls (cx w0) selvagelaw28_StreamTotals.id [.pv (toPV d0)] [] fun r _ => r = .pv (.bool true) := by
  obtain ⟨l, e, g1, g2⟩ := secs_data hT hk
  rw [e]
  exact totals_law L g1 g2
end Go.Sv
