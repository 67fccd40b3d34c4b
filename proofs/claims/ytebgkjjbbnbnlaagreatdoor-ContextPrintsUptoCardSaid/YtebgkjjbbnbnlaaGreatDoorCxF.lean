/- The statements about context diffs: their helpers: numbers of errors, hunks that are the same, hunks with memory of their own. -/
import Derived.Test.YtebgkjjbbnbnlaaGreatDoorCxL
import Derived.Test.YtebgkjjbbnbnlaaGreatDoorEq
import Derived.Test.YtebgkjjbbnbnlaaGreatDoorUnH
set_option linter.unusedVariables false
set_option linter.unusedSimpArgs false
set_option maxRecDepth 100000
namespace Go.Sv
section
open Go Go.RowKit Go.Proofs
variable {w0 : Base} {σ : Store} {R : AV → Store → Prop}
theorem num12_nil (L : Laid w0.w) (hR : R (.pv (.int .i64 0)) σ) : SCalls (cx w0) selvagelaw12_num.id [.pv (.raw .nilIface)] σ R := by
  refine SCalls.alone L rfl (fun w1 L1 => ?_) rfl hR
  refine selvagelaw12_num.calls ?_
  rw [selvagelaw12_num.b0_eq, eql_raw]
  refine opt_in rfl (opt_in (v := true) rfl (isB_in ?_))
  rw [condB_true']
  exact fin_keep (Nat.zero_le _) rfl
theorem num12_err (L : Laid w0.w) {n : Int} (hR : R (.pv (.int .i64 n)) σ) : SCalls (cx w0) selvagelaw12_num.id [.pv (.iface 63 (.int .i64 n))] σ R := by
  refine SCalls.alone L rfl (fun w1 L1 => ?_) rfl hR
  refine selvagelaw12_num.calls ?_
  rw [selvagelaw12_num.b0_eq, eql_raw]
  refine opt_in rfl (opt_in (v := false) rfl (isB_in ?_))
  rw [condB_false']
  refine opt_in rfl ?_
  refine As_spec L1 (id := 0) rfl (isB_in ?_)
  rw [Bool.not_true, condB_false']
  repeat ((with_reducible first | apply opt_in | apply wI | apply wT | apply wP | apply wS | apply wB); exact rfl)
  exact fin_keep (Nat.zero_le _) rfl
theorem num12 (L : Laid w0.w) {n : Int} (hR : R (.pv (.int .i64 n)) σ) : SCalls (cx w0) selvagelaw12_num.id [errA n] σ R := by
  unfold errA
  split
  · rename_i h
    rw [h] at hR
    exact num12_nil L hR
  · exact num12_err L hR
abbrev twoS (h : Hnk) : Store := [.cells 39 (hnkC h), .cells 39 (hnkC h)]
theorem same1_rows (h : Hnk) (hx : h.rows.length ≤ 1048576) : ∀ (r : List Row) (k : Nat), (h.rows.map rowP).drop k = r.map rowP →
    selvagelaw12_same.n14 (selvagelaw12_same.X w0 0) w0 0 (fun r' _ => r' = .pv (.bool true)) (twoS h) (.ptr 0 0) (.ptr 1 0) k
  | [], k, hd => by
    have hk := drop_end hd
    rw [List.length_map] at hk
    refine selvagelaw12_same.n14_in ?_
    rw [selvagelaw12_same.b15_eq]
    repeat ((with_reducible first | apply opt_in | apply wI | apply wT | apply wP | apply wS | apply wB); exact rfl)
    rw [condB_decide, if_neg (by rw [List.length_map]; omega)]
    refine selvagelaw12_same.n31_in ?_
    rw [selvagelaw12_same.b31_eq]
    exact fin_keep (Nat.zero_le _) rfl
  | c :: r, k, hd => by
    obtain ⟨h1, h2, hk⟩ := drop_facts hd
    rw [List.length_map] at hk
    refine selvagelaw12_same.n14_in ?_
    rw [selvagelaw12_same.b15_eq]
    repeat ((with_reducible first | apply opt_in | apply wI | apply wT | apply wP | apply wS | apply wB); exact rfl)
    rw [condB_decide, if_pos (by rw [List.length_map]; omega)]
    repeat ((with_reducible first | apply opt_in | apply wI | apply wT | apply wP | apply wS | apply wB); exact rfl)
    refine opt_in (idx_ro tab51 h1 rfl) ?_
    repeat ((with_reducible first | apply opt_in | apply wI | apply wT | apply wP | apply wS | apply wB); exact rfl)
    refine opt_in (idx_ro tab51 h1 rfl) ?_
    repeat ((with_reducible first | apply opt_in | apply wI | apply wT | apply wP | apply wS | apply wB); exact rfl)
    refine neq_eq (t := 51) (ti := ti51) (cs := [.int .i64 c.k, .str c.t]) rfl (eq_row c) (isB_in ?_)
    rw [condB_false', wrap_next hk (by omega)]
    exact same1_rows h hx r (k + 1) h2
theorem same1_spec (L : Laid w0.w) {h : Hnk} (hx : h.rows.length ≤ 1048576) (hR : R (.pv (.bool true)) σ) : SCalls (cx w0) selvagelaw12_same.id [.pv (hnkP h), .pv (hnkP h)] σ R := by
  refine SCalls.alone L rfl (fun w1 L1 => ?_) rfl hR
  have key : ∀ t, t = false → selvagelaw12_same.n5 (selvagelaw12_same.X w1 0) w1 0 (fun r' _ => r' = .pv (.bool true)) (twoS h) (.ptr 0 0) (.ptr 1 0) t := by
    rintro t rfl
    refine selvagelaw12_same.n5_in ?_
    rw [selvagelaw12_same.b5_eq, condB_false']
    exact same1_rows h hx h.rows 0 rfl
  refine selvagelaw12_same.calls ?_
  rw [selvagelaw12_same.b0_eq]
  refine ⟨rfl, rfl, ?_⟩
  repeat ((with_reducible first | apply opt_in | apply wI | apply wT | apply wP | apply wS | apply wB); exact rfl)
  rw [condB_ibne, if_pos rfl]
  repeat ((with_reducible first | apply opt_in | apply wI | apply wT | apply wP | apply wS | apply wB); exact rfl)
  rw [condB_ibne, if_pos rfl]
  repeat ((with_reducible first | apply opt_in | apply wI | apply wT | apply wP | apply wS | apply wB); exact rfl)
  rw [condB_ibne, if_pos rfl]
  repeat ((with_reducible first | apply opt_in | apply wI | apply wT | apply wP | apply wS | apply wB); exact rfl)
  rw [condB_ibne, if_pos rfl]
  repeat ((with_reducible first | apply opt_in | apply wI | apply wT | apply wP | apply wS | apply wB); exact rfl)
  rw [condB_not, condB_sbeq, if_pos rfl]
  repeat ((with_reducible first | apply opt_in | apply wI | apply wT | apply wP | apply wS | apply wB); exact rfl)
  exact key _ (by simp)
theorem same12_loop (L : Laid w0.w) (xs : List PV) (hx : xs.length ≤ 1048576) : ∀ (r : List Hnk) (k : Nat), xs.drop k = r.map hnkP → (∀ x ∈ r, x.rows.length ≤ 1048576) →
    selvagelaw12_sameAll.n14 (selvagelaw12_sameAll.X w0 0) w0 0 (fun r' _ => r' = .pv (.bool true)) [] (.pv (.sl xs)) (.pv (.sl xs)) k
  | [], k, hd, _ => by
    have hk := drop_end hd
    refine selvagelaw12_sameAll.n14_in ?_
    rw [selvagelaw12_sameAll.b15_eq]
    repeat ((with_reducible first | apply opt_in | apply wI | apply wT | apply wP | apply wS | apply wB); exact rfl)
    rw [condB_decide, if_neg (by omega)]
    refine selvagelaw12_sameAll.n31_in ?_
    rw [selvagelaw12_sameAll.b31_eq]
    exact fin_keep (Nat.zero_le _) rfl
  | h :: r, k, hd, ht => by
    obtain ⟨h1, h2, hk⟩ := drop_facts hd
    have idx : ∀ σ, aIndexAddr σ tabS ti24.td (.pv (.sl xs)) (k : Int) = some (.ro (hnkP h) 0) := fun σ => idx_ro tab39 h1 rfl
    refine selvagelaw12_sameAll.n14_in ?_
    rw [selvagelaw12_sameAll.b15_eq]
    repeat ((with_reducible first | apply opt_in | apply wI | apply wT | apply wP | apply wS | apply wB); exact rfl)
    rw [condB_decide, if_pos (by omega)]
    refine opt_in (idx _) ?_
    repeat ((with_reducible first | apply opt_in | apply wI | apply wT | apply wP | apply wS | apply wB); exact rfl)
    refine opt_in (idx _) ?_
    repeat ((with_reducible first | apply opt_in | apply wI | apply wT | apply wP | apply wS | apply wB); exact rfl)
    refine same1_spec L (h := h) (ht h (by simp)) (isB_in ?_)
    rw [Bool.not_true, condB_false', wrap_next hk (by omega)]
    exact same12_loop L xs hx r (k + 1) h2 (fun x hx => ht x (List.mem_cons_of_mem _ hx))
theorem same12_spec (L : Laid w0.w) {l : List Hnk} (hl : l.length ≤ 1048576) (ht : ∀ x ∈ l, x.rows.length ≤ 1048576) (hR : R (.pv (.bool true)) σ) : SCalls (cx w0) selvagelaw12_sameAll.id [hnksA l, hnksA l] σ R := by
  refine SCalls.alone L rfl (fun w1 L1 => ?_) rfl hR
  refine selvagelaw12_sameAll.calls ?_
  rw [selvagelaw12_sameAll.b0_eq]
  repeat ((with_reducible first | apply opt_in | apply wI | apply wT | apply wP | apply wS | apply wB); exact rfl)
  rw [condB_ibne, if_pos rfl]
  exact same12_loop L1 (l.map hnkP) (by rw [List.length_map]; exact hl) l 0 rfl ht
theorem twins_loop (l : List Hnk) (hx : l.length ≤ 1048576) (ht : ∀ x ∈ l, x.rows.length ≤ 1048576) : ∀ (r done : List Hnk), l = done ++ r → selvagelaw12_twins.n8 (selvagelaw12_twins.X w0 0) w0 0 (fun r' _ => r' = hnksA l) (hkS done) (hnksA l) (hkA done) done.length
  | [], done, h => by
    rw [List.append_nil] at h
    subst h
    refine selvagelaw12_twins.n8_in ?_
    rw [selvagelaw12_twins.b9_eq]
    repeat ((with_reducible first | apply opt_in | apply wI | apply wT | apply wP | apply wS | apply wB); exact rfl)
    rw [condB_decide, if_neg (by rw [List.length_map]; omega)]
    refine selvagelaw12_twins.n25_in ?_
    rw [selvagelaw12_twins.b25_eq]
    exact fin_seal (σ := []) (L := hkS l) glob0 rfl (hk_seal l) rfl
  | c :: r, done, h => by
    have hk : (l.map hnkP)[done.length]? = some (hnkP c) := by rw [h]; simp
    have hlen : l.length = done.length + (r.length + 1) := by rw [h]; simp
    have hc := ht c (by rw [h]; simp)
    have ih := twins_loop l hx ht r (done ++ [c]) (by rw [h]; simp)
    simp only [hkA, List.length_append, List.length_singleton] at ih
    have e : done.map hnkP ++ [hnkP c] = (done ++ [c]).map hnkP := by simp
    refine selvagelaw12_twins.n8_in ?_
    rw [selvagelaw12_twins.b9_eq]
    repeat ((with_reducible first | apply opt_in | apply wI | apply wT | apply wP | apply wS | apply wB); exact rfl)
    rw [condB_decide, if_pos (by rw [List.length_map]; omega)]
    refine opt_in (idx_ro tab39 hk rfl) ?_
    repeat ((with_reducible first | apply opt_in | apply wI | apply wT | apply wP | apply wS | apply wB); exact rfl)
    refine opt2_in (own_rows hc) ?_
    repeat ((with_reducible first | apply opt_in | apply wI | apply wT | apply wP | apply wS | apply wB); exact rfl)
    refine opt2_in (v := .pv (.sl [hnkP c])) rfl ?_
    refine opt2_in (append_pv (id := 0) (es := 6) (ver := done.length) (xs := done.map hnkP) (ys := [hnkP c]) rfl rfl (List.length_map _).symm rfl rfl ⟨by rw [List.length_map]; show done.length + 1 ≤ _; omega, by rw [List.length_map]; show (done.length + 1) * 72 ≤ _; omega⟩) ?_
    rw [wrap_next (n := l.length) (by omega) (by omega)]
    rw [List.length_map, e]
    exact selvagelaw12_twins.n8_weak (EWeak.drop (τ := hkS (done ++ [c])) glob0 (Nat.zero_le _) rfl rfl) ih
theorem twins_spec (L : Laid w0.w) {l : List Hnk} (hl : l.length ≤ 1048576) (ht : ∀ x ∈ l, x.rows.length ≤ 1048576) (hR : R (hnksA l) σ) : SCalls (cx w0) selvagelaw12_twins.id [hnksA l] σ R := by
  refine SCalls.alone L rfl (fun w1 L1 => ?_) rfl hR
  refine selvagelaw12_twins.calls ?_
  rw [selvagelaw12_twins.b0_eq]
  refine selvagelaw12_twins.n8_weak (l_' := hnksA l) (out' := hkA []) (i' := 0) (τ := hkS []) (EWeak.nil (t := 3) (es := 6) rfl rfl) ?_
  exact twins_loop l hl ht l [] rfl
end
end Go.Sv
