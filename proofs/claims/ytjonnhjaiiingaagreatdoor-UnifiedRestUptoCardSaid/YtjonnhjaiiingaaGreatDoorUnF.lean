/- Package unified, printing a whole file; hunks with memory of their own; hunks that are the same. -/
import Derived.Test.YtjonnhjaiiingaaGreatDoorUnA
import Derived.Test.YtjonnhjaiiingaaGreatDoorUnE
set_option linter.unusedVariables false
set_option linter.unusedSimpArgs false
set_option maxRecDepth 100000
namespace Go.Sv
section
open Go Go.RowKit Go.Proofs
variable {w0 : Base} {σ : Store} {R : AV → Store → Prop}
theorem neq_eq {t : TypeId} {ti : TI} {cs : List PV} (ht : tabS t = some ti) (e : aEqT tabS ti false (.pv (.agg cs)) (.pv (.agg cs)) = some true) {k : AV → Prop} (hk : k (.pv (.bool false))) : aBinK tabS t false .neq (.pv (.agg cs)) (.pv (.agg cs)) k := by
  unfold aBinK
  exact opt_in ht (opt_in e hk)
theorem eq_row (r : Row) : eqCells tabS 0 [(0, 3), (1, 9)] [.int .i64 r.k, .str r.t] [.int .i64 r.k, .str r.t] = some true := by
  have h : eqCells tabS 0 [(0, 3), (1, 9)] [.int .i64 r.k, .str r.t] [.int .i64 r.k, .str r.t] = some ((r.k == r.k) && ((r.t == r.t) && true)) := rfl
  rw [h]; simp
theorem same_rows (xs : List PV) (i : Nat) (h : Hnk) (hx : h.rows.length ≤ 1048576)
    (next : selvagelaw11_sameHunks.n53 (selvagelaw11_sameHunks.X w0 0) w0 0 (fun r' _ => r' = .pv (.bool true)) [.cells 37 (hnkC h), .cells 37 (hnkC h)] (.pv (.sl xs)) (.pv (.sl xs)) i) : ∀ (r : List Row) (k : Nat), (h.rows.map rowP).drop k = r.map rowP →
    selvagelaw11_sameHunks.n36 (selvagelaw11_sameHunks.X w0 0) w0 0 (fun r' _ => r' = .pv (.bool true)) [.cells 37 (hnkC h), .cells 37 (hnkC h)] (.pv (.sl xs)) (.pv (.sl xs)) i (.ptr 0 0) (.ptr 1 0) k
  | [], k, hd => by
    have hk := drop_end hd
    rw [List.length_map] at hk
    refine selvagelaw11_sameHunks.n36_in ?_
    rw [selvagelaw11_sameHunks.b37_eq]
    repeat ((with_reducible first | apply opt_in | apply wI | apply wT | apply wP | apply wS | apply wB); exact rfl)
    rw [condB_decide, if_neg (by rw [List.length_map]; omega)]
    exact next
  | c :: r, k, hd => by
    obtain ⟨h1, h2, hk⟩ := drop_facts hd
    rw [List.length_map] at hk
    refine selvagelaw11_sameHunks.n36_in ?_
    rw [selvagelaw11_sameHunks.b37_eq]
    repeat ((with_reducible first | apply opt_in | apply wI | apply wT | apply wP | apply wS | apply wB); exact rfl)
    rw [condB_decide, if_pos (by rw [List.length_map]; omega)]
    repeat ((with_reducible first | apply opt_in | apply wI | apply wT | apply wP | apply wS | apply wB); exact rfl)
    refine opt_in (idx_ro tab65 h1 rfl) ?_
    repeat ((with_reducible first | apply opt_in | apply wI | apply wT | apply wP | apply wS | apply wB); exact rfl)
    refine opt_in (idx_ro tab65 h1 rfl) ?_
    repeat ((with_reducible first | apply opt_in | apply wI | apply wT | apply wP | apply wS | apply wB); exact rfl)
    refine neq_eq (t := 65) (ti := ti65) (cs := [.int .i64 c.k, .str c.t]) rfl (eq_row c) (isB_in ?_)
    rw [condB_false', wrap_next hk (by omega)]
    exact same_rows xs i h hx next r (k + 1) h2
theorem same_loop (xs : List PV) (hx : xs.length ≤ 1048576) : ∀ (r : List Hnk) (k : Nat), xs.drop k = r.map hnkP → (∀ x ∈ r, x.rows.length ≤ 1048576) →
    selvagelaw11_sameHunks.n14 (selvagelaw11_sameHunks.X w0 0) w0 0 (fun r' _ => r' = .pv (.bool true)) [] (.pv (.sl xs)) (.pv (.sl xs)) k
  | [], k, hd, _ => by
    have hk := drop_end hd
    refine selvagelaw11_sameHunks.n14_in ?_
    rw [selvagelaw11_sameHunks.b15_eq]
    repeat ((with_reducible first | apply opt_in | apply wI | apply wT | apply wP | apply wS | apply wB); exact rfl)
    rw [condB_decide, if_neg (by omega)]
    refine selvagelaw11_sameHunks.n54_in ?_
    rw [selvagelaw11_sameHunks.b54_eq]
    exact fin_keep (Nat.zero_le _) rfl
  | h :: r, k, hd, ht => by
    obtain ⟨h1, h2, hk⟩ := drop_facts hd
    have idx : ∀ σ, aIndexAddr σ tabS ti24.td (.pv (.sl xs)) (k : Int) = some (.ro (hnkP h) 0) := fun σ => idx_ro tab37 h1 rfl
    have ih := same_loop xs hx r (k + 1) h2 (fun x hx => ht x (List.mem_cons_of_mem _ hx))
    have next : selvagelaw11_sameHunks.n53 (selvagelaw11_sameHunks.X w0 0) w0 0 (fun r' _ => r' = .pv (.bool true)) [.cells 37 (hnkC h), .cells 37 (hnkC h)] (.pv (.sl xs)) (.pv (.sl xs)) k := by
      refine selvagelaw11_sameHunks.n53_in ?_
      rw [selvagelaw11_sameHunks.b53_eq, wrap_next hk (by omega)]
      exact selvagelaw11_sameHunks.n14_weak (EWeak.drop (τ := []) glob0 (Nat.zero_le _) rfl rfl) ih
    have key : ∀ t, t = false → selvagelaw11_sameHunks.n28 (selvagelaw11_sameHunks.X w0 0) w0 0 (fun r' _ => r' = .pv (.bool true)) [.cells 37 (hnkC h), .cells 37 (hnkC h)] (.pv (.sl xs)) (.pv (.sl xs)) k (.ptr 0 0) (.ptr 1 0) t := by
      rintro t rfl
      refine selvagelaw11_sameHunks.n28_in ?_
      rw [selvagelaw11_sameHunks.b28_eq, condB_false']
      exact same_rows xs k h (ht h (by simp)) next h.rows 0 rfl
    refine selvagelaw11_sameHunks.n14_in ?_
    rw [selvagelaw11_sameHunks.b15_eq]
    repeat ((with_reducible first | apply opt_in | apply wI | apply wT | apply wP | apply wS | apply wB); exact rfl)
    rw [condB_decide, if_pos (by omega)]
    refine opt_in (idx _) ?_
    repeat ((with_reducible first | apply opt_in | apply wI | apply wT | apply wP | apply wS | apply wB); exact rfl)
    refine opt_in (idx _) ?_
    repeat ((with_reducible first | apply opt_in | apply wI | apply wT | apply wP | apply wS | apply wB); exact rfl)
    refine ⟨opt_in (idx _) rfl, rfl, ?_⟩
    repeat ((with_reducible first | apply opt_in | apply wI | apply wT | apply wP | apply wS | apply wB); exact rfl)
    rw [condB_ibne, if_pos rfl]
    repeat ((with_reducible first | apply opt_in | apply wI | apply wT | apply wP | apply wS | apply wB); exact rfl)
    rw [condB_ibne, if_pos rfl]
    repeat ((with_reducible first | apply opt_in | apply wI | apply wT | apply wP | apply wS | apply wB); exact rfl)
    rw [condB_ibne, if_pos rfl]
    repeat ((with_reducible first | apply opt_in | apply wI | apply wT | apply wP | apply wS | apply wB); exact rfl)
    rw [condB_ibne, if_pos rfl]
    repeat ((with_reducible first | apply opt_in | apply wI | apply wT | apply wP | apply wS | apply wB); exact rfl)
    rw [condB_not, condB_sbeq, if_pos rfl]
    repeat ((with_reducible first | apply opt_in | apply wI | apply wT | apply wP | apply wS | apply wB); exact rfl)
    exact key _ (by simp)
theorem same_spec (L : Laid w0.w) {l : List Hnk} (hl : l.length ≤ 1048576) (ht : ∀ x ∈ l, x.rows.length ≤ 1048576) (hR : R (.pv (.bool true)) σ) : SCalls (cx w0) selvagelaw11_sameHunks.id [hnksA l, hnksA l] σ R := by
  refine SCalls.alone L rfl (fun w1 L1 => ?_) rfl hR
  refine selvagelaw11_sameHunks.calls ?_
  rw [selvagelaw11_sameHunks.b0_eq]
  repeat ((with_reducible first | apply opt_in | apply wI | apply wT | apply wP | apply wS | apply wB); exact rfl)
  rw [condB_ibne, if_pos rfl]
  exact same_loop (l.map hnkP) (by rw [List.length_map]; exact hl) l 0 rfl ht
end
end Go.Sv
