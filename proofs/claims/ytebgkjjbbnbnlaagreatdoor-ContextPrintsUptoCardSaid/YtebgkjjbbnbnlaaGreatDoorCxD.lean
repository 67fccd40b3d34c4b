/- What the code of package context answers where it prints: a hunk, a file's hunks. -/
import Derived.Test.YtebgkjjbbnbnlaaGreatDoorCxC
set_option linter.unusedVariables false
set_option linter.unusedSimpArgs false
set_option maxRecDepth 100000
namespace Go.Sv
section
open Go Go.RowKit Go.Proofs
variable {w0 : Base} {σ : Store} {R : AV → Store → Prop}
abbrev starsF : List UInt8 := [42, 42, 42, 42, 42, 42, 42, 42, 42, 42, 42, 42, 42, 42, 42]
def cheadF (h : Hnk) : List UInt8 := if h.head = [] then starsF else starsF ++ ([32] ++ h.head)
def chunkF (h : Hnk) : List UInt8 := (((cheadF h ++ (([10, 42, 42, 42, 32] ++ spanC h.a h.n) ++ [32, 42, 42, 42, 42, 10])) ++ partF 2 h.rows (marksF h.rows.length h.rows)) ++ (([45, 45, 45, 32] ++ spanC h.b h.m) ++ [32, 45, 45, 45, 45, 10])) ++ partF 3 h.rows (marksF h.rows.length h.rows)
theorem cheadF_len (h : Hnk) : (cheadF h).length ≤ 16 + h.head.length := by
  unfold cheadF; split
  · simp; omega
  · simp only [List.length_append, List.length_cons, List.length_nil]; omega
theorem chunkF_len {h : Hnk} (hv : validF h = true) (ok : HnkOK h) : (chunkF h).length ≤ 300 * pvB (hnkP h) := by
  obtain ⟨v1, v2, v3, v4⟩ := valid_small hv ok
  have e1 := spanC_len (a := h.a) (n := h.n) v1.1 v1.2 v2.1 v2.2
  have e2 := spanC_len (a := h.b) (n := h.m) v3.1 v3.2 v4.1 v4.2
  have e3 := partF_len 2 h.rows (marksF h.rows.length h.rows)
  have e4 := partF_len 3 h.rows (marksF h.rows.length h.rows)
  have e5 := cheadF_len h
  unfold chunkF
  simp only [List.length_append, List.length_cons, List.length_nil, pvB, pvBs]
  omega
def chunkOut (h : Hnk) : AV := .tup [.pv (.str (if validF h = true then chunkF h else [])), vErr (validF h)]
theorem chunkOut_under (h : Hnk) : AV.under 0 (chunkOut h) = true := by unfold chunkOut vErr; split <;> rfl
theorem cHunk_spec (L : Laid w0.w) {h : Hnk} (ok : HnkOK h) (hB : pvB (hnkP h) ≤ 8388608) (hR : R (chunkOut h) σ) : SCalls (cx w0) context_Hunk.id [.pv (hnkP h)] σ R := by
  refine SCalls.alone L rfl (fun w1 L1 => ?_) (chunkOut_under h) hR
  refine context_Hunk.calls ?_
  rw [context_Hunk.b0_eq]
  refine ⟨rfl, ?_⟩
  repeat ((with_reducible first | apply opt_in | apply wI | apply wT | apply wP | apply wS | apply wB); exact rfl)
  refine Valid_spec L1 (Nat.le_trans ok.rows (by decide)) (fun x hx => Nat.le_trans (ok.text x hx) (by decide)) (Nat.le_trans ok.head (by decide)) ok.a ok.b ?_
  cases hv : validF h with
  | false =>
    rw [vErr, if_neg (by decide), neq_raw]
    refine opt_in rfl (opt_in (v := false) rfl (isB_in ?_))
    rw [Bool.not_false, condB_true']
    refine fin_keep (Nat.zero_le _) ?_
    unfold chunkOut
    rw [hv]; rfl
  | true =>
    rw [vErr, if_pos rfl, neq_raw]
    refine opt_in rfl (opt_in (v := true) rfl (isB_in ?_))
    rw [Bool.not_true, condB_false']
    obtain ⟨v1, v2, v3, v4⟩ := valid_small hv ok
    have e1 := spanC_len (a := h.a) (n := h.n) v1.1 v1.2 v2.1 v2.2
    have e2 := spanC_len (a := h.b) (n := h.m) v3.1 v3.2 v4.1 v4.2
    obtain ⟨hm, _⟩ := marks_at h.rows.length [] h.rows (Nat.le_refl _) (.inl rfl)
    have e3 := partL_len 2 h.rows (marksF h.rows.length h.rows)
    have e4 := partL_len 3 h.rows (marksF h.rows.length h.rows)
    have e3' := partF_len 2 h.rows (marksF h.rows.length h.rows)
    have e5 := cheadF_len h
    have e6 := ok.head
    have hB' : pvBs (h.rows.map rowP) ≤ 8388608 := by simp only [pvB, pvBs] at hB; omega
    have fin : ∀ s, s = cheadF h → context_Hunk.n22 (context_Hunk.X w1 0) w1 0 (fun r' _ => r' = chunkOut h) (ptS h s) (.ptr 0 0) (.ptr 1 0) := by
      rintro s rfl
      refine context_Hunk.n22_in ?_
      rw [context_Hunk.b22_eq]
      repeat ((with_reducible first | apply opt_in | apply wI | apply wT | apply wP | apply wS | apply wB); exact rfl)
      refine marks_spec L1 ok.rows ?_
      repeat ((with_reducible first | apply opt_in | apply wI | apply wT | apply wP | apply wS | apply wB); exact rfl)
      refine cspan_spec L1 v1.1 v1.2 v2.1 v2.2 (isS_in ⟨by simp only [List.length_cons, List.length_nil]; omega, by simp only [List.length_append, List.length_cons, List.length_nil]; omega, ?_⟩)
      refine WriteString_spec (id := 1) rfl (by simp only [List.length_append, List.length_cons, List.length_nil]; omega) ?_
      repeat ((with_reducible first | apply opt_in | apply wI | apply wT | apply wP | apply wS | apply wB); exact rfl)
      refine part_spec (C := h) ok.rows ok.text hm (by simp only [List.length_append, List.length_cons, List.length_nil]; omega) ?_
      repeat ((with_reducible first | apply opt_in | apply wI | apply wT | apply wP | apply wS | apply wB); exact rfl)
      refine cspan_spec L1 v3.1 v3.2 v4.1 v4.2 (isS_in ⟨by simp only [List.length_cons, List.length_nil]; omega, by simp only [List.length_append, List.length_cons, List.length_nil]; omega, ?_⟩)
      refine WriteString_spec (id := 1) rfl (by simp only [List.length_append, List.length_cons, List.length_nil]; omega) ?_
      repeat ((with_reducible first | apply opt_in | apply wI | apply wT | apply wP | apply wS | apply wB); exact rfl)
      refine part_spec (C := h) ok.rows ok.text hm (by simp only [List.length_append, List.length_cons, List.length_nil]; omega) ?_
      refine String_spec rfl (isS_in (fin_keep (Nat.zero_le _) ?_))
      unfold chunkOut
      rw [hv]; rfl
    refine WriteString_spec (id := 1) rfl (by simp only [List.length_cons, List.length_nil]; omega) ?_
    repeat ((with_reducible first | apply opt_in | apply wI | apply wT | apply wP | apply wS | apply wB); exact rfl)
    rw [condB_not, condB_sbeq]
    refine ite_split (fun g => fin _ ?_) (fun g => ?_)
    · rw [cheadF, if_pos g]; rfl
    · repeat ((with_reducible first | apply opt_in | apply wI | apply wT | apply wP | apply wS | apply wB); exact rfl)
      refine ⟨by simp only [List.length_cons, List.length_nil]; omega, ?_⟩
      refine WriteString_spec (id := 1) rfl (by simp only [List.length_append, List.length_cons, List.length_nil]; omega) (fin _ ?_)
      rw [cheadF, if_neg g]; rfl
def cnamesF (p s p' s' : List UInt8) : List UInt8 := (([42, 42, 42, 32] ++ (shownF p s ++ [10])) ++ [45, 45, 45, 32]) ++ (shownF p' s' ++ [10])
def cprintF (p s p' s' : List UInt8) (l : List Hnk) : List UInt8 := cnamesF p s p' s' ++ l.flatMap chunkF
def cprintOut (p s p' s' : List UInt8) (l : List Hnk) : AV := .tup [.pv (.str (if faultN p s p' s' l = 0 then cprintF p s p' s' l else [])), errA (faultN p s p' s' l)]
theorem cprintOut_under (p s p' s' : List UInt8) (l : List Hnk) : AV.under 0 (cprintOut p s p' s' l) = true := by unfold cprintOut errA; split <;> rfl
theorem flat_chunks_len : ∀ l : List Hnk, (∀ h ∈ l, HnkOK h) → l.all validF = true → (l.flatMap chunkF).length ≤ 300 * pvBs (l.map hnkP)
  | [], _, _ => by simp
  | h :: l, ok, hv => by
    rw [List.all_cons, Bool.and_eq_true] at hv
    have ih := flat_chunks_len l (fun x hx => ok x (List.mem_cons_of_mem _ hx)) hv.2
    have := chunkF_len hv.1 (ok h (by simp))
    simp only [List.flatMap_cons, List.length_append, List.map_cons]
    rw [pvBs]
    omega
theorem split_head {p s p' s' : Ln} {l : List Hnk} (h1 : nameOKB p s = true) (h2 : nameOKB p' s' = true) : ∃ r, splitF (printF p s p' s' l) = ([45, 45, 45, 32] ++ (shownF p s ++ [10])) :: ([43, 43, 43, 32] ++ (shownF p' s' ++ [10])) :: r := by
  have e : printF p s p' s' l = ([45, 45, 45, 32] ++ (shownF p s ++ [10])) ++ (([43, 43, 43, 32] ++ (shownF p' s' ++ [10])) ++ l.flatMap hunkF) := by unfold printF; simp
  have l1 := lineB_front [45, 45, 45, 32] _ (by decide) (lineB_front _ [10] (shown_no10 h1) rfl)
  have l2 := lineB_front [43, 43, 43, 32] _ (by decide) (lineB_front _ [10] (shown_no10 h2) rfl)
  have w1 : endB ([45, 45, 45, 32] ++ (shownF p s ++ [10])) = true := by unfold endB; rw [wholeB_append (by simp), wholeB_append (by simp)]; rw [Bool.or_eq_true]; exact .inr rfl
  have w2 : endB ([43, 43, 43, 32] ++ (shownF p' s' ++ [10])) = true := by unfold endB; rw [wholeB_append (by simp), wholeB_append (by simp)]; rw [Bool.or_eq_true]; exact .inr rfl
  rw [e, splitF_append _ _ w1, splitF_append _ _ w2, splitF_line _ l1, splitF_line _ l2]
  exact ⟨_, rfl⟩
theorem slice_lns2 {σ : Store} {ls : List Ln} {k : Nat} (h : k ≤ ls.length) : aSlice σ tabS ti53.td (.pv (lnsP ls)) none (some (.pv (.int .i64 (k : Int)))) = some (.pv (lnsP (ls.take k))) := by
  show (if (0 : Int) ≤ 0 ∧ (0 : Int) ≤ (k : Int) ∧ (k : Int) ≤ (((ls.map PV.str).length : Nat) : Int) then (if sized 1 (ls.map PV.str) = true then some (AV.pv (.sl (((ls.map PV.str).take (k : Int).toNat).drop (0 : Int).toNat))) else none) else none) = _
  have e : sized 1 (ls.map PV.str) = true := by
    simp only [sized, List.all_eq_true, List.mem_map]
    rintro x ⟨r, _, rfl⟩
    rfl
  rw [if_pos (by rw [List.length_map]; omega), if_pos e]
  simp
abbrev nmB (p s p' s' acc : List UInt8) : Store := nmS p s p' s' ++ [.bld tyB 5 acc]
theorem cprint_loop (L : Laid w0.w) (p s p' s' : List UInt8) (xs : List PV) (hx : xs.length ≤ 1048576) (v : AV) : ∀ (r : List Hnk) (k : Nat) (acc : List UInt8), xs.drop k = r.map hnkP → (∀ h ∈ r, HnkOK h ∧ pvB (hnkP h) ≤ 8388608) → r.all validF = true →
    acc.length + (r.flatMap chunkF).length ≤ 140737488355328 → v = .tup [.pv (.str (acc ++ r.flatMap chunkF)), .pv (.raw .nilIface)] →
    context_Print.n22 (context_Print.X w0 0) w0 0 (fun r' _ => r' = v) (nmB p s p' s' acc) (.ptr 2 0) (.pv (.sl xs)) xs.length k
  | [], k, acc, hd, _, _, _, hv => by
    have hk := drop_end hd
    refine context_Print.n22_in ?_
    rw [context_Print.b23_eq, condB_decide, if_neg (by omega)]
    refine context_Print.n45_in ?_
    rw [context_Print.b45_eq]
    refine String_spec rfl (isS_in (fin_keep (Nat.zero_le _) ?_))
    rw [hv]; simp
  | h :: r, k, acc, hd, ok, hva, hl, hv => by
    obtain ⟨h1, h2, hk⟩ := drop_facts hd
    obtain ⟨o1, o2⟩ := ok h (by simp)
    rw [List.all_cons, Bool.and_eq_true] at hva
    simp only [List.flatMap_cons, List.length_append] at hl
    refine context_Print.n22_in ?_
    rw [context_Print.b23_eq, condB_decide, if_pos (by omega)]
    refine opt_in (idx_ro tab39 h1 rfl) ?_
    repeat ((with_reducible first | apply opt_in | apply wI | apply wT | apply wP | apply wS | apply wB); exact rfl)
    refine cHunk_spec L (h := h) o1 o2 ?_
    unfold chunkOut vErr
    rw [hva.1, if_pos rfl, if_pos rfl]
    repeat ((with_reducible first | apply opt_in | apply wI | apply wT | apply wP | apply wS | apply wB); exact rfl)
    rw [neq_raw]
    refine opt_in rfl (opt_in (v := true) rfl (isB_in ?_))
    rw [Bool.not_true, condB_false']
    refine WriteString_spec (id := 2) rfl (by omega) ?_
    rw [wrap_next hk (by omega)]
    refine context_Print.n22_weak (EWeak.drop (τ := nmB p s p' s' (acc ++ chunkF h)) glob0 (Nat.zero_le _) rfl rfl) ?_
    exact cprint_loop L p s p' s' xs hx v r (k + 1) _ h2 (fun x hx => ok x (List.mem_cons_of_mem _ hx)) hva.2 (by simp only [List.length_append]; omega) (by rw [hv, List.flatMap_cons, List.append_assoc])
theorem cPrint_spec (L : Laid w0.w) {p s p' s' : List UInt8} {l : List Hnk} (o : PrOK p s p' s' l) (hR : R (cprintOut p s p' s' l) σ) : SCalls (cx w0) context_Print.id [.pv (nmP p s), .pv (nmP p' s'), hnksA l] σ R := by
  refine SCalls.alone L rfl (fun w1 L1 => ?_) (cprintOut_under p s p' s' l) hR
  have q1 := shownF_len (p := p) (s := s)
  have q2 := shownF_len (p := p') (s := s')
  have o1 := o.p
  have o2 := o.s
  have o3 := o.p'
  have o4 := o.s'
  have hx : (l.map hnkP).length ≤ 1048576 := by rw [List.length_map]; exact o.len
  refine context_Print.calls ?_
  rw [context_Print.b0_eq]
  refine ⟨rfl, rfl, ?_⟩
  repeat ((with_reducible first | apply opt_in | apply wI | apply wT | apply wP | apply wS | apply wB); exact rfl)
  refine Print_spec L1 o ?_
  unfold printOut errA
  by_cases hf : faultN p s p' s' l = 0
  · rw [if_pos hf, if_pos hf]
    repeat ((with_reducible first | apply opt_in | apply wI | apply wT | apply wP | apply wS | apply wB); exact rfl)
    rw [neq_raw]
    refine opt_in rfl (opt_in (v := true) rfl (isB_in ?_))
    rw [Bool.not_true, condB_false']
    obtain ⟨g1, g2, g3⟩ : (nameOKB p s = true ∧ nameOKB p' s' = true) ∧ l.all validF = true ∧ inOrd l = true := by
      unfold faultN at hf
      split at hf
      · cases hf
      · rename_i g1
        split at hf
        · cases hf
        · rename_i g2
          split at hf
          · cases hf
          · rename_i g3
            exact ⟨by rw [← Bool.and_eq_true]; simpa using g1, by simpa using g2, by simpa using g3⟩
    have ob := o.bulk
    have fl := flat_hunks_len l o.ok g2
    have flc := flat_chunks_len l o.ok g2
    have hpl : (printF p s p' s' l).length ≤ 1099511627776 := by
      unfold printF; simp only [List.length_append, List.length_cons, List.length_nil]; omega
    refine Split_spec L1 hpl ?_
    obtain ⟨r, hr⟩ := split_head (l := l) g1.1 g1.2
    rw [hr]
    refine opt_in (slice_lns2 (k := 2) (by simp)) ?_
    refine opt_in (idx_ro (k := 0) tab9 rfl rfl) ?_
    repeat ((with_reducible first | apply opt_in | apply wI | apply wT | apply wP | apply wS | apply wB); exact rfl)
    refine opt_in (slice_drop (k := 4) (by simp)) (isS_in ?_)
    have e1 : ([45, 45, 45, 32] ++ (shownF p s ++ [10])).drop 4 = shownF p s ++ [10] := rfl
    rw [e1]
    refine ⟨by simp only [List.length_append, List.length_cons, List.length_nil]; omega, by simp only [List.length_append, List.length_cons, List.length_nil]; omega, ?_⟩
    refine opt_in (idx_ro (k := 1) tab9 rfl rfl) ?_
    repeat ((with_reducible first | apply opt_in | apply wI | apply wT | apply wP | apply wS | apply wB); exact rfl)
    refine opt_in (slice_drop (k := 4) (by simp)) (isS_in ?_)
    have e2 : ([43, 43, 43, 32] ++ (shownF p' s' ++ [10])).drop 4 = shownF p' s' ++ [10] := rfl
    rw [e2]
    refine ⟨by simp only [List.length_append, List.length_cons, List.length_nil]; omega, ?_⟩
    refine WriteString_spec (id := 2) rfl (by simp only [List.length_append, List.length_cons, List.length_nil]; omega) ?_
    repeat ((with_reducible first | apply opt_in | apply wI | apply wT | apply wP | apply wS | apply wB); exact rfl)
    refine cprint_loop L1 p s p' s' (l.map hnkP) hx _ l 0 (cnamesF p s p' s') rfl (fun h hh => ⟨o.ok h hh, o.one h hh⟩) g2 (by unfold cnamesF; simp only [List.length_append, List.length_cons, List.length_nil]; omega) ?_
    unfold cprintOut errA
    rw [if_pos hf, if_pos hf]; rfl
  · rw [if_neg hf, if_neg hf]
    repeat ((with_reducible first | apply opt_in | apply wI | apply wT | apply wP | apply wS | apply wB); exact rfl)
    rw [neq_raw]
    refine opt_in rfl (opt_in (v := false) rfl (isB_in ?_))
    rw [Bool.not_false, condB_true']
    refine fin_keep (Nat.zero_le _) ?_
    unfold cprintOut errA
    rw [if_neg hf, if_neg hf]
end
end Go.Sv
