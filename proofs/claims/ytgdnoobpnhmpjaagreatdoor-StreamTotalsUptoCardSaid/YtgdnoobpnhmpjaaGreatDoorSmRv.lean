/- A hunk the other way round, by the program. -/
import Derived.Test.YtgdnoobpnhmpjaaGreatDoorSmTw
import Derived.Test.YtgdnoobpnhmpjaaGreatDoorSmC
set_option linter.unusedVariables false
set_option linter.unusedSimpArgs false
set_option maxRecDepth 100000
namespace Go.Sv
open Go Go.RowKit Go.Proofs
section
variable {w0 : Base} {σ : Store} {R : AV → Store → Prop}
abbrev rvO (h : Hnk) (a : AV) : List AV := [.pv (.int .i64 h.b), .pv (.int .i64 h.m), .pv (.int .i64 h.a), .pv (.int .i64 h.n), .pv (.str h.head), a]
abbrev rvX (h : Hnk) (a b c : AV) (u o f : List Row) : Store := [.cells 46 (hnkC h), .cells 46 (AV.ofValue ti46.zero).cells, .cells 46 (rvO h a), .cells 43 [b], .cells 43 [c], .arr 2 (u.map rowP) false, .arr 2 (o.map rowP) false, .arr 2 (f.map rowP) false]
abbrev rvS (h : Hnk) (u o f : List Row) : Store := rvX h (.arr 5 u.length 0 u.length) (.arr 6 o.length 0 o.length) (.arr 7 f.length 0 f.length) u o f
abbrev rvE (h : Hnk) (u o f : List Row) : Store := rvX h (.arr 5 u.length 0 u.length) .nilsl .nilsl u o f
abbrev endF : AV := .func (.func 75) [] [.ptr 2 0, .ptr 3 0, .ptr 4 0]
theorem roomy_row {n : Nat} (h : n ≤ 1048577) : roomy n ti79.bytes := roomy_of h (by decide) (by decide)
theorem end_spec {h : Hnk} {u o f : List Row} {Lx : Store} (hb : u.length + o.length + f.length ≤ 1048576) (hR : R (.tup []) (rvE h (u ++ o ++ f) o f ++ Lx)) : SCalls (cx w0) hunks_Reverse_1.id [.ptr 2 0, .ptr 3 0, .ptr 4 0] (rvS h u o f ++ Lx) R := by
  refine hunks_Reverse_1.calls ?_
  rw [hunks_Reverse_1.b0_eq]
  repeat ((with_reducible first | apply opt_in | apply wI | apply wT | apply wP | apply wS | apply wB); exact rfl)
  refine opt2_in (row_appendX (es := 2) (xs := u.map rowP) (ys := o.map rowP) rfl rfl (List.length_map ..) (elems_row rfl (List.length_map ..)) (sized_rows o) (roomy_row (by rw [List.length_map, List.length_map]; omega))) ?_
  refine ⟨opt_in rfl rfl, ?_⟩
  rw [← List.map_append, List.length_map]
  refine opt2_in (row_appendX (es := 2) (xs := (u ++ o).map rowP) (ys := f.map rowP) rfl rfl (List.length_map ..) (elems_row rfl (List.length_map ..)) (sized_rows f) (roomy_row (by rw [List.length_map, List.length_map, List.length_append]; omega))) ?_
  rw [← List.map_append, List.length_map]
  repeat ((with_reducible first | apply opt_in | apply wI | apply wT | apply wP | apply wS | apply wB); exact rfl)
  exact fin_keep (by simp) hR
theorem rv_loop (h : Hnk) (hrows : h.rows.length ≤ 1048576) : ∀ (r : List Row) (k : Nat) (u o f : List Row), (h.rows.map rowP).drop k = r.map rowP → u.length + o.length + f.length + r.length ≤ 1048576 → u ++ revF r o f = revF h.rows [] [] →
    hunks_Reverse.n12 (hunks_Reverse.X w0 0) w0 0 (fun r' _ => r' = .pv (hnkP (revH h))) (rvS h u o f) (.ptr 1 0) (.ptr 2 0) (.ptr 3 0) (.ptr 4 0) endF (.pv (rowsP h.rows)) h.rows.length k
  | [], k, u, o, f, hd, hb, he => by
    have hk := drop_end hd
    rw [List.length_map] at hk
    refine hunks_Reverse.n12_in ?_
    rw [hunks_Reverse.b13_eq, condB_decide, if_neg (by omega)]
    refine hunks_Reverse.n38_in ?_
    rw [hunks_Reverse.b38_eq]
    refine opt_in (v := (hunks_Reverse_1.id, [.ptr 2 0, .ptr 3 0, .ptr 4 0])) rfl ?_
    refine end_spec (Lx := []) (by simp only [List.length_nil] at hb; omega) ?_
    repeat ((with_reducible first | apply opt_in | apply wI | apply wT | apply wP | apply wS | apply wB); exact rfl)
    refine fin_seal (σ := []) (L := _) (r' := .pv (hnkP (revH h))) glob0 rfl ?_ rfl
    have hu : (u ++ o ++ f) = revF h.rows [] [] := by rw [List.append_assoc]; exact he
    rw [hu]
    exact seal_row (pre := [.int .i64 h.b, .int .i64 h.m, .int .i64 h.a, .int .i64 h.n, .str h.head]) (post := []) (id := 5) (es := 2) (xs := (revF h.rows [] []).map rowP) rfl (List.length_map ..) rfl rfl
  | x :: r, k, u, o, f, hd, hb, he => by
    obtain ⟨h1, h2, h3⟩ := drop_facts hd
    rw [List.length_map] at h3
    rw [List.length_cons] at hb
    have next : ∀ (u' o' f' : List Row) (Lx : Store), u'.length + o'.length + f'.length + r.length ≤ 1048576 → u' ++ revF r o' f' = revF h.rows [] [] → hunks_Reverse.n37 (hunks_Reverse.X w0 0) w0 0 (fun r' _ => r' = .pv (hnkP (revH h))) (rvS h u' o' f' ++ Lx) (.ptr 1 0) (.ptr 2 0) (.ptr 3 0) (.ptr 4 0) endF (.pv (rowsP h.rows)) h.rows.length k := by
      intro u' o' f' Lx hb' he'
      refine hunks_Reverse.n37_in ?_
      rw [hunks_Reverse.b37_eq, wrap_next h3 (by omega)]
      refine hunks_Reverse.n12_weak (EWeak.drop (τ := rvS h u' o' f') glob0 (Nat.zero_le _) rfl rfl) ?_
      exact rv_loop h hrows r (k + 1) u' o' f' h2 hb' he'
    refine hunks_Reverse.n12_in ?_
    rw [hunks_Reverse.b13_eq, condB_decide, if_pos (by omega)]
    refine opt_in (idx_ro tab79 h1 rfl) ?_
    repeat ((with_reducible first | apply opt_in | apply wI | apply wT | apply wP | apply wS | apply wB); exact rfl)
    rw [condB_ibeq]
    refine ite_split (fun g => ?_) (fun g => ?_)
    · repeat ((with_reducible first | apply opt_in | apply wI | apply wT | apply wP | apply wS | apply wB); exact rfl)
      refine opt2_in (v := .pv (.sl [rowP (⟨3, x.t⟩ : Row)])) rfl ?_
      refine opt2_in (row_append (es := 2) (xs := f.map rowP) (ys := [rowP (⟨3, x.t⟩ : Row)]) rfl rfl (List.length_map ..) rfl (roomy_row (by rw [List.length_map, List.length_singleton]; omega))) ?_
      have e : f.map rowP ++ [rowP (⟨3, x.t⟩ : Row)] = (f ++ [(⟨3, x.t⟩ : Row)]).map rowP := by rw [List.map_append]; rfl
      rw [e, List.length_map]
      repeat ((with_reducible first | apply opt_in | apply wI | apply wT | apply wP | apply wS | apply wB); exact rfl)
      refine next u o (f ++ [(⟨3, x.t⟩ : Row)]) [_] (by rw [List.length_append, List.length_singleton]; omega) ?_
      rw [← he, revF, if_pos g]
    · rw [condB_ibeq]
      refine ite_split (fun g2 => ?_) (fun g2 => ?_)
      · repeat ((with_reducible first | apply opt_in | apply wI | apply wT | apply wP | apply wS | apply wB); exact rfl)
        refine opt2_in (v := .pv (.sl [rowP (⟨2, x.t⟩ : Row)])) rfl ?_
        refine opt2_in (row_append (es := 2) (xs := o.map rowP) (ys := [rowP (⟨2, x.t⟩ : Row)]) rfl rfl (List.length_map ..) rfl (roomy_row (by rw [List.length_map, List.length_singleton]; omega))) ?_
        have e : o.map rowP ++ [rowP (⟨2, x.t⟩ : Row)] = (o ++ [(⟨2, x.t⟩ : Row)]).map rowP := by rw [List.map_append]; rfl
        rw [e, List.length_map]
        repeat ((with_reducible first | apply opt_in | apply wI | apply wT | apply wP | apply wS | apply wB); exact rfl)
        refine next u (o ++ [(⟨2, x.t⟩ : Row)]) f [_] (by rw [List.length_append, List.length_singleton]; omega) ?_
        rw [← he, revF, if_neg g, if_pos g2]
      · refine opt_in (v := (hunks_Reverse_1.id, [.ptr 2 0, .ptr 3 0, .ptr 4 0])) rfl ?_
        refine end_spec (Lx := [_]) (by omega) ?_
        repeat ((with_reducible first | apply opt_in | apply wI | apply wT | apply wP | apply wS | apply wB); exact rfl)
        refine opt2_in (v := .pv (.sl [rowP x])) rfl ?_
        refine opt2_in (row_append (es := 2) (xs := (u ++ o ++ f).map rowP) (ys := [rowP x]) rfl rfl (List.length_map ..) rfl (roomy_row (by rw [List.length_map, List.length_append, List.length_append, List.length_singleton]; omega))) ?_
        have e : (u ++ o ++ f).map rowP ++ [rowP x] = (u ++ o ++ f ++ [x]).map rowP := by rw [List.map_append (l₂ := [x])]; rfl
        rw [e, List.length_map]
        repeat ((with_reducible first | apply opt_in | apply wI | apply wT | apply wP | apply wS | apply wB); exact rfl)
        refine hunks_Reverse.n37_in ?_
        rw [hunks_Reverse.b37_eq, wrap_next h3 (by omega)]
        refine hunks_Reverse.n12_weak (t2' := .ptr 1 0) (out' := .ptr 2 0) (old' := .ptr 3 0) (fresh' := .ptr 4 0) (end_' := endF) (t22' := .pv (rowsP h.rows)) (t23' := h.rows.length) (t24' := (k + 1 : Nat)) (EWeak.trans (EWeak.cellNil (id := 3) (es := 2) (pre := []) (post := []) rfl) (EWeak.trans (EWeak.cellNil (id := 4) (es := 2) (pre := []) (post := []) rfl) (EWeak.remap (τ := rvS h (u ++ o ++ f ++ [x]) [] []) (fun g => rfl) [0, 1, 2, 3, 4, 5, 9, 10] rfl (by decide) (fun i hi => absurd hi (Nat.not_lt_zero i)) (Nat.zero_le _) ⟨rfl, rfl, rfl, rfl, rfl, rfl, rfl, rfl, trivial⟩ rfl rfl rfl))) ?_
        refine rv_loop h hrows r (k + 1) (u ++ o ++ f ++ [x]) [] [] h2 (by simp only [List.length_append, List.length_singleton, List.length_nil]; omega) ?_
        rw [← he, revF, if_neg g, if_neg g2]
        simp
set_option maxHeartbeats 2000000 in
theorem Reverse_spec (L : Laid w0.w) {h : Hnk} (hb : h.rows.length ≤ 1048576) (hR : R (.pv (hnkP (revH h))) σ) : SCalls (cx w0) hunks_Reverse.id [.pv (hnkP h)] σ R := by
  refine SCalls.alone L rfl (fun w1 L1 => ?_) rfl hR
  have h0 : hunks_Reverse.n12 (hunks_Reverse.X w1 0) w1 0 (fun r' _ => r' = .pv (hnkP (revH h))) [.cells 46 (hnkC h), .cells 46 (AV.ofValue ti46.zero).cells, .cells 46 (rvO h .nilsl), .cells 43 [.nilsl], .cells 43 [.nilsl]] (.ptr 1 0) (.ptr 2 0) (.ptr 3 0) (.ptr 4 0) endF (.pv (rowsP h.rows)) h.rows.length 0 := by
    refine hunks_Reverse.n12_weak (t2' := .ptr 1 0) (out' := .ptr 2 0) (old' := .ptr 3 0) (fresh' := .ptr 4 0) (end_' := endF) (t22' := .pv (rowsP h.rows)) (t23' := h.rows.length) (t24' := (0 : Nat)) (EWeak.trans (EWeak.cellNil (id := 2) (es := 2) (pre := [.pv (.int .i64 h.b), .pv (.int .i64 h.m), .pv (.int .i64 h.a), .pv (.int .i64 h.n), .pv (.str h.head)]) (post := []) rfl) (EWeak.trans (EWeak.cellNil (id := 3) (es := 2) (pre := []) (post := []) rfl) (EWeak.trans (EWeak.cellNil (id := 4) (es := 2) (pre := []) (post := []) rfl) (EWeak.remap (τ := rvS h [] [] []) (fun g => rfl) [0, 1, 2, 3, 4, 5, 6, 7] rfl (by decide) (fun i hi => absurd hi (Nat.not_lt_zero i)) (Nat.zero_le _) ⟨rfl, rfl, rfl, rfl, rfl, rfl, rfl, rfl, trivial⟩ rfl rfl rfl)))) ?_
    exact rv_loop h hb h.rows 0 [] [] [] rfl (by simpa using hb) rfl
  refine hunks_Reverse.calls ?_
  rw [hunks_Reverse.b0_eq]
  refine ⟨rfl, ?_⟩
  refine opt_in rfl (opt_in (v := .pv (.int .i64 h.b)) rfl (isI_in ?_))
  refine opt_in rfl (opt_in (v := .pv (.int .i64 h.m)) rfl (isI_in ?_))
  refine opt_in rfl (opt_in (v := .pv (.int .i64 h.a)) rfl (isI_in ?_))
  refine opt_in rfl (opt_in (v := .pv (.int .i64 h.n)) rfl (isI_in ?_))
  refine opt_in rfl (opt_in (v := .pv (.str h.head)) rfl (isS_in ?_))
  refine opt_in (v := .agg (rvO h .nilsl)) rfl ?_
  refine opt_in (v := [.cells 46 (hnkC h), .cells 46 (AV.ofValue ti46.zero).cells, .cells 46 (rvO h .nilsl)]) rfl ?_
  refine opt_in rfl (opt_in (v := .pv (rowsP h.rows)) rfl (opt_in (v := .pv (.int .i64 ((h.rows.map rowP).length : Nat))) rfl (isI_in ?_)))
  rw [List.length_map]
  exact h0
end
end Go.Sv
