/- A hunk's first line: what the program answers, all of it. -/
import Derived.Test.YtgdnoobpnhmpjaaGreatDoorSmR
set_option linter.unusedVariables false
set_option linter.unusedSimpArgs false
set_option maxRecDepth 100000
namespace Go.Sv
open Go Go.RowKit Go.Proofs
theorem take_digs (s : Ln) : s.take (digs s).length = digs s := by
  have h : (digs s ++ rest s).take (digs s).length = digs s := List.take_left
  rw [digs_rest s] at h
  exact h
theorem beh44 {t u : Ln} (h : behF t [44] = some u) : t = 44 :: u := by
  unfold behF at h
  split at h
  · rename_i g
    cases h
    unfold Lib.hasPrefix at g
    rw [List.isPrefixOf_iff_prefix] at g
    obtain ⟨w, rfl⟩ := g
    rfl
  · cases h
section
variable {w0 : Base} {σ : Store} {R : AV → Store → Prop}
theorem numbers_spec (L : Laid w0.w) {s : Ln} (hs : s.length ≤ 1099511627776) (hA : digs s = [] → ∀ t, R (.tup [.pv (.str t), .pv (.bool false)]) σ) (hB : digs s ≠ [] → behF (rest s) [44] = none → R (.tup [.pv (.str (rest s)), .pv (.bool true)]) σ)
    (hC : digs s ≠ [] → ∀ u, behF (rest s) [44] = some u → R (.tup [.pv (.str (rest u)), .pv (.bool (decide (digs u ≠ [])))]) σ) : SCalls (cx w0) stream_numbers.id [.pv (.str s)] σ R := by
  have hr := rest_le s
  refine stream_numbers.calls ?_
  rw [stream_numbers.b0_eq]
  refine digits_spec L (by omega) ?_
  repeat ((with_reducible first | apply opt_in | apply wI | apply wT | apply wP | apply wS | apply wB); exact rfl)
  refine CutP_spec ?_
  have h9 : ∀ (ok t : Bool) (m : Ln), (t = true → digs s ≠ [] ∧ behF (rest s) [44] = some m) → (t = false → digs s = [] ∧ ok = false ∨ digs s ≠ [] ∧ ok = true ∧ behF (rest s) [44] = none) → stream_numbers.n9 (stream_numbers.X w0 σ.length) w0 σ.length R σ (rest s) ok m t := by
    intro ok t m g1 g2
    refine stream_numbers.n9_in ?_
    rw [stream_numbers.b9_eq]
    refine condB_split (fun g => ?_) (fun g => ?_)
    · obtain ⟨e1, e2⟩ := g1 g
      have hl := behF_len e2
      refine digits_spec L (by omega) ?_
      repeat ((with_reducible first | apply opt_in | apply wI | apply wT | apply wP | apply wS | apply wB); exact rfl)
      exact fin_same (hC e1 m e2)
    · rcases g2 g with ⟨e1, rfl⟩ | ⟨e1, rfl, e2⟩
      · exact fin_same (hA e1 _)
      · exact fin_same (hB e1 e2)
  unfold cutA
  by_cases e1 : digs s = []
  · cases e2 : behF (rest s) [44] with
    | none =>
      repeat ((with_reducible first | apply opt_in | apply wI | apply wT | apply wP | apply wS | apply wB); exact rfl)
      rw [decide_eq_false (fun h => h e1), condB_false']
      exact h9 _ _ _ nofun (fun _ => .inl ⟨e1, rfl⟩)
    | some m =>
      repeat ((with_reducible first | apply opt_in | apply wI | apply wT | apply wP | apply wS | apply wB); exact rfl)
      rw [decide_eq_false (fun h => h e1), condB_false']
      exact h9 _ _ _ nofun (fun _ => .inl ⟨e1, rfl⟩)
  · cases e2 : behF (rest s) [44] with
    | none =>
      repeat ((with_reducible first | apply opt_in | apply wI | apply wT | apply wP | apply wS | apply wB); exact rfl)
      rw [decide_eq_true e1, condB_true']
      exact h9 _ _ _ nofun (fun _ => .inr ⟨e1, rfl, e2⟩)
    | some m =>
      repeat ((with_reducible first | apply opt_in | apply wI | apply wT | apply wP | apply wS | apply wB); exact rfl)
      rw [decide_eq_true e1, condB_true']
      exact h9 _ _ _ (fun _ => ⟨e1, e2⟩) nofun
abbrev noA : AV := .tup [.pv (.int .i64 0), .pv (.str []), .pv (.bool false)]
theorem span_spec (L : Laid w0.w) {s : Ln} (hs : s.length ≤ 1099511627776) (h1 : ∀ a t, rangeF s = some (a, t) → R (.tup [.pv (.int .i64 (a : Nat)), .pv (.str t), .pv (.bool true)]) σ) (h2 : rangeF s = none → R noA σ) : SCalls (cx w0) stream_span.id [.pv (.str s)] σ R := by
  have hds := digs_rest s
  have hlen := congrArg List.length hds
  rw [List.length_append] at hlen
  have h17 : ∀ (r : Ln) (q : Bool), (q = true → rangeF s = none) → (q = false → rangeF s = some (valD 0 (digs s), r) ∧ digs s ≠ [] ∧ valD 0 (digs s) ≤ 2147483647) → stream_span.n17 (stream_span.X w0 σ.length) w0 σ.length R σ r (digs s) q := by
    intro r q g1 g2
    refine stream_span.n17_in ?_
    rw [stream_span.b17_eq]
    refine condB_split (fun g => fin_same (h2 (g1 g))) (fun g => ?_)
    obtain ⟨e1, e2, e3⟩ := g2 g
    refine Atoi_spec (by omega) (atoi_val e2 (digs_all s) (by omega)) ?_
    repeat ((with_reducible first | apply opt_in | apply wI | apply wT | apply wP | apply wS | apply wB); exact rfl)
    exact fin_same (h1 _ _ e1)
  refine stream_span.calls ?_
  rw [stream_span.b0_eq]
  refine numbers_spec L hs (fun e t => ?_) (fun e1 e2 => ?_) (fun e1 u e2 => ?_)
  · repeat ((with_reducible first | apply opt_in | apply wI | apply wT | apply wP | apply wS | apply wB); exact rfl)
    rw [show (!false) = true from rfl, condB_true']
    refine fin_same (h2 ?_)
    unfold rangeF numF
    rw [if_pos (.inl e)]
  · repeat ((with_reducible first | apply opt_in | apply wI | apply wT | apply wP | apply wS | apply wB); exact rfl)
    rw [show (!true) = false from rfl, condB_false', wrap_i64 (by omega) (by omega), show (s.length : Int) - ((rest s).length : Int) = ((digs s).length : Int) by omega]
    refine opt_in (slice_take (by omega)) (isS_in ?_)
    rw [take_digs s]
    refine (Cut44 L (p := digs s) (t := []) (digs_no s) (by simp only [List.length_nil]; omega)).2 ?_
    repeat ((with_reducible first | apply opt_in | apply wI | apply wT | apply wP | apply wS | apply wB); exact rfl)
    refine small_spec L (by omega) (digs_all s) (isB_in ?_)
    rw [condB_not]
    refine condB_split (fun g => ?_) (fun g => ?_)
    · have hv := of_decide_eq_true g
      rw [condB_false']
      refine h17 _ _ nofun (fun _ => ⟨?_, e1, hv⟩)
      unfold rangeF numF
      rw [if_neg (fun h => h.elim e1 (fun h => by omega))]
      simp only [e2]
    · have hv := of_decide_eq_false g
      refine h17 _ _ (fun _ => ?_) nofun
      unfold rangeF numF
      rw [if_pos (.inr (by omega))]
  · have hu := beh44 e2
    have hdu := digs_rest u
    have hlu := congrArg List.length hdu
    rw [List.length_append] at hlu
    have hl2 := congrArg List.length hu
    rw [List.length_cons] at hl2
    repeat ((with_reducible first | apply opt_in | apply wI | apply wT | apply wP | apply wS | apply wB); exact rfl)
    cases eu : decide (digs u ≠ []) with
    | false =>
      have en := of_decide_eq_false eu
      rw [show (!false) = true from rfl, condB_true']
      refine fin_same (h2 ?_)
      have hnu : numF u = none := by unfold numF; rw [if_pos (.inl (Classical.not_not.1 en))]
      unfold rangeF
      cases hn : numF s with
      | none => rfl
      | some x =>
        obtain ⟨a, t⟩ := x
        have ht : t = rest s := by
          unfold numF at hn
          split at hn
          · cases hn
          · cases hn; rfl
        subst ht
        simp only [e2, hnu]
    | true =>
      have en := of_decide_eq_true eu
      have es : s = (digs s ++ 44 :: digs u) ++ rest u := by
        rw [List.append_assoc, List.cons_append, hdu, ← hu, hds]
      have elen : (digs s ++ 44 :: digs u).length = (digs s).length + ((digs u).length + 1) := by simp
      rw [show (!true) = false from rfl, condB_false', wrap_i64 (by omega) (by omega), show (s.length : Int) - ((rest u).length : Int) = ((digs s ++ 44 :: digs u).length : Int) by omega]
      refine opt_in (slice_take (by omega)) (isS_in ?_)
      have et : s.take (digs s ++ 44 :: digs u).length = digs s ++ 44 :: digs u := by
        have : ((digs s ++ 44 :: digs u) ++ rest u).take (digs s ++ 44 :: digs u).length = digs s ++ 44 :: digs u := List.take_left
        rwa [← es] at this
      rw [et]
      refine (Cut44 L (p := digs s) (t := digs u) (digs_no s) (by omega)).1 ?_
      repeat ((with_reducible first | apply opt_in | apply wI | apply wT | apply wP | apply wS | apply wB); exact rfl)
      refine small_spec L (by omega) (digs_all s) (isB_in ?_)
      rw [condB_not]
      refine condB_split (fun g => ?_) (fun g => ?_)
      · have hv := of_decide_eq_true g
        have hns : numF s = some (valD 0 (digs s), rest s) := by unfold numF; rw [if_neg (fun h => h.elim e1 (fun h => by omega))]
        rw [condB_true']
        refine small_spec L (by omega) (digs_all u) (isB_in ?_)
        by_cases hw : valD 0 (digs u) ≤ 2147483647
        · rw [decide_eq_true hw]
          refine h17 _ _ nofun (fun _ => ⟨?_, e1, hv⟩)
          have hnu : numF u = some (valD 0 (digs u), rest u) := by unfold numF; rw [if_neg (fun h => h.elim en (fun h => by omega))]
          unfold rangeF
          rw [hns]
          simp only [e2, hnu]
        · rw [decide_eq_false hw]
          refine h17 _ _ (fun _ => ?_) nofun
          have hnu : numF u = none := by unfold numF; rw [if_pos (.inr (by omega))]
          unfold rangeF
          rw [hns]
          simp only [e2, hnu]
      · have hv := of_decide_eq_false g
        refine h17 _ _ (fun _ => ?_) nofun
        unfold rangeF numF
        rw [if_pos (.inr (by omega))]
end
end Go.Sv
