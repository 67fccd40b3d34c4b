/- The law ContextPrints over stores. -/
import Derived.Test.YtebgkjjbbnbnlaaGreatDoorCxE
import Derived.Test.YtebgkjjbbnbnlaaGreatDoorCxF
import Derived.Test.YtebgkjjbbnbnlaaGreatDoorCxW
set_option linter.unusedVariables false
set_option linter.unusedSimpArgs false
set_option maxRecDepth 100000
namespace Go.Sv
section
open Go Go.RowKit Go.Proofs
variable {w0 : Base} {σ : Store} {R : AV → Store → Prop}
abbrev jobC (p s p' s' : List UInt8) (l : List Hnk) : List AV := [.pv (.str p), .pv (.str s), .pv (.str p'), .pv (.str s'), hnksA l]
abbrev jobS (p s p' s' : List UInt8) (l : List Hnk) : Store := [.cells 26 (jobC p s p' s' l)]
theorem cprints_loop (L : Laid w0.w) (p s p' s' : List UInt8) (l : List Hnk) (o : PrOK p s p' s' l) : ∀ (r : List Hnk) (k : Nat), (l.map hnkP).drop k = r.map hnkP → (∀ h ∈ r, HnkOK h ∧ pvB (hnkP h) ≤ 8388608) →
    selvagelaw12_ContextPrints.n20 (selvagelaw12_ContextPrints.X w0 0) w0 0 (fun r' _ => r' = .pv (.bool true)) (jobS p s p' s' l) (.ptr 0 0) (hnksA l) k
  | [], k, hd, _ => by
    have hk := drop_end hd
    rw [List.length_map] at hk
    refine selvagelaw12_ContextPrints.n20_in ?_
    rw [selvagelaw12_ContextPrints.b21_eq]
    repeat ((with_reducible first | apply opt_in | apply wI | apply wT | apply wP | apply wS | apply wB); exact rfl)
    rw [condB_decide, if_neg (by rw [List.length_map]; omega)]
    refine selvagelaw12_ContextPrints.n41_in ?_
    rw [selvagelaw12_ContextPrints.b41_eq]
    exact works_spec L (isB_in (fin_keep (Nat.zero_le _) rfl))
  | h :: r, k, hd, ht => by
    obtain ⟨h1, h2, hk⟩ := drop_facts hd
    rw [List.length_map] at hk
    obtain ⟨ok, hB⟩ := ht h (by simp)
    have hl := o.len
    refine selvagelaw12_ContextPrints.n20_in ?_
    rw [selvagelaw12_ContextPrints.b21_eq]
    repeat ((with_reducible first | apply opt_in | apply wI | apply wT | apply wP | apply wS | apply wB); exact rfl)
    rw [condB_decide, if_pos (by rw [List.length_map]; omega)]
    refine opt_in (idx_ro tab39 h1 rfl) ?_
    repeat ((with_reducible first | apply opt_in | apply wI | apply wT | apply wP | apply wS | apply wB); exact rfl)
    refine cHunk_spec L (h := h) ok hB ?_
    unfold chunkOut
    repeat ((with_reducible first | apply opt_in | apply wI | apply wT | apply wP | apply wS | apply wB); exact rfl)
    refine opt_in (idx_ro tab39 h1 rfl) ?_
    repeat ((with_reducible first | apply opt_in | apply wI | apply wT | apply wP | apply wS | apply wB); exact rfl)
    refine rcHunk_spec L (h := h) ok hB ?_
    unfold chunkOutR v01
    repeat ((with_reducible first | apply opt_in | apply wI | apply wT | apply wP | apply wS | apply wB); exact rfl)
    rw [condB_not, condB_sbeq, if_pos rfl, vErr_errA]
    refine num12 L (isI_in ?_)
    have fin : ∀ t, t = false → selvagelaw12_ContextPrints.n35 (selvagelaw12_ContextPrints.X w0 0) w0 0 (fun r' _ => r' = .pv (.bool true)) (jobS p s p' s' l) (.ptr 0 0) (hnksA l) k t := by
      rintro t rfl
      refine selvagelaw12_ContextPrints.n35_in ?_
      rw [selvagelaw12_ContextPrints.b35_eq, condB_false', wrap_next (n := l.length) (by omega) (by omega)]
      exact cprints_loop L p s p' s' l o r (k + 1) h2 (fun x hx => ht x (List.mem_cons_of_mem _ hx))
    exact fin _ (by simp)
theorem cprints_law (L : Laid w0.w) {p s p' s' : List UInt8} {l : List Hnk} (o : PrOK p s p' s' l) : SCalls (cx w0) selvagelaw12_ContextPrints.id [.pv (.agg [.str p, .str s, .str p', .str s', .sl (l.map hnkP)])] [] fun r _ => r = .pv (.bool true) := by
  have hrows : ∀ x ∈ l, x.rows.length ≤ 1048576 := fun x hx => (o.ok x hx).rows
  have fin : ∀ t, t = false → selvagelaw12_ContextPrints.n11 (selvagelaw12_ContextPrints.X w0 0) w0 0 (fun r' _ => r' = .pv (.bool true)) (jobS p s p' s' l) (.ptr 0 0) (hnksA l) t := by
    rintro t rfl
    refine selvagelaw12_ContextPrints.n11_in ?_
    rw [selvagelaw12_ContextPrints.b11_eq, condB_false']
    exact cprints_loop L p s p' s' l o l 0 rfl (fun h hh => ⟨o.ok h hh, o.one h hh⟩)
  refine selvagelaw12_ContextPrints.calls ?_
  rw [selvagelaw12_ContextPrints.b0_eq]
  refine ⟨rfl, ?_⟩
  repeat ((with_reducible first | apply opt_in | apply wI | apply wT | apply wP | apply wS | apply wB); exact rfl)
  refine twins_spec L o.len hrows ?_
  repeat ((with_reducible first | apply opt_in | apply wI | apply wT | apply wP | apply wS | apply wB); exact rfl)
  refine cPrint_spec L o ?_
  unfold cprintOut
  repeat ((with_reducible first | apply opt_in | apply wI | apply wT | apply wP | apply wS | apply wB); exact rfl)
  refine rcPrint_spec L o ?_
  unfold cprintOutR
  repeat ((with_reducible first | apply opt_in | apply wI | apply wT | apply wP | apply wS | apply wB); exact rfl)
  rw [condB_not, condB_sbeq, if_pos rfl]
  refine num12 L (isI_in ?_)
  rw [condB_ibne, if_pos rfl]
  repeat ((with_reducible first | apply opt_in | apply wI | apply wT | apply wP | apply wS | apply wB); exact rfl)
  refine same12_spec L o.len hrows (isB_in ?_)
  exact fin _ rfl
open Go.Proofs.YtebgkjjbbnbnlaaGreatDoor in
theorem job_data {H : Type} {d0 : DataW H} {ds : List (DataW H)} (hT : hasT tabS 12 26 (toPV d0)) (hk : Rows.uptoSmall H (d0 :: ds) = true) : ∃ p s p' s' l, toPV d0 = .agg [.str p, .str s, .str p', .str s', .sl (l.map hnkP)] ∧ PrOK p s p' s' l ∧ pvBs (l.map hnkP) ≤ 1048576 := by
  obtain ⟨qs, e, g⟩ := hasT_struct tab26 ti26_td hT
  obtain ⟨_, qs, rfl, h1, h⟩ := fields_cons g
  obtain ⟨_, qs, rfl, h2, h⟩ := fields_cons h
  obtain ⟨_, qs, rfl, h3, h⟩ := fields_cons h
  obtain rfl := fields_nil h
  obtain ⟨p, s, rfl⟩ := name_data h1
  obtain ⟨p', s', rfl⟩ := name_data h2
  obtain ⟨xs, rfl, hx⟩ := hasT_slice tab24 ti24_td h3
  obtain ⟨l, rfl, hl⟩ := hnk_list xs hx
  have hb : Rows.uptoBulkAll (d0 :: ds) ≤ 1048576 := of_decide_eq_true hk
  have h0 := pvB_le d0
  simp only [Rows.uptoBulkAll] at hb
  have e' : toPV d0 = .agg [.str p, .str s, .str p', .str s', .sl (l.map hnkP)] := e
  rw [e'] at h0
  simp only [pvB, pvBs] at h0
  obtain ⟨g1, g2⟩ := hnks_ok (B := 1048576) (Nat.le_refl _) (by omega) hl
  exact ⟨p, s, p', s', l, e', ⟨by omega, by omega, by omega, by omega, g1, g2, by omega⟩, by omega⟩
open Go.Proofs.YtebgkjjbbnbnlaaGreatDoor in
theorem ContextPrints_spec {w0 : Base} (L : Laid w0.w) {H : Type} {d0 : DataW H} {ds : List (DataW H)} (hT : hasT tabS 12 26 (toPV d0)) (hk : Rows.uptoSmall H (d0 :: ds) = true) : SCalls (cx w0) selvagelaw12_ContextPrints.id [.pv (toPV d0)] [] fun r _ => r = .pv (.bool true) := by
  obtain ⟨p, s, p', s', l, e, o, _⟩ := job_data hT hk
  rw [e]
  exact cprints_law L o
end
end Go.Sv
