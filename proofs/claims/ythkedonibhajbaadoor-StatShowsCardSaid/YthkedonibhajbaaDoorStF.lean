/- The law StatShows, over stores. -/
import Derived.Test.YthkedonibhajbaaDoorStE
import Derived.Test.YthkedonibhajbaaDoorStA
import Derived.Test.YthkedonibhajbaaDoorFnC
import Derived.Test.YthkedonibhajbaaDoorSvZ
set_option linter.unusedVariables false
set_option maxRecDepth 100000
namespace Go.Sv
open Go Go.Proofs
theorem neq_b4 {a b : Bool} {k : AV → Prop} (h : k (.pv (.bool (a != b)))) : aBinK tabS 4 false .neq (.pv (.bool a)) (.pv (.bool b)) k := by
  cases a <;> cases b <;> exact h
abbrev barC (a d w m : Int) : AV := .pv (.agg (flat [.int .i64 a, .int .i64 d, .int .i64 w, .int .i64 m]))
abbrev barS (a d w m : Int) : SObj := .cells 23 [.pv (.int .i64 a), .pv (.int .i64 d), .pv (.int .i64 w), .pv (.int .i64 m)]
theorem bar_p {p : PV} (hT : hasT tabS 12 23 p) : ∃ a d w m, (AV.pv p) = barC a d w m := by
  obtain ⟨qs, rfl, h⟩ := hasT_struct tab23 ti23_td hT
  obtain ⟨_, qs, rfl, h1, h⟩ := fields_cons h
  obtain ⟨_, qs, rfl, h2, h⟩ := fields_cons h
  obtain ⟨_, qs, rfl, h3, h⟩ := fields_cons h
  obtain ⟨_, qs, rfl, h4, h⟩ := fields_cons h
  obtain rfl := fields_nil h
  obtain ⟨a, rfl, _⟩ := hasT_int tab3 ti3_td h1
  obtain ⟨d, rfl, _⟩ := hasT_int tab3 ti3_td h2
  obtain ⟨w, rfl, _⟩ := hasT_int tab3 ti3_td h3
  obtain ⟨m, rfl, _⟩ := hasT_int tab3 ti3_td h4
  exact ⟨a, d, w, m, rfl⟩
abbrev RT : AV → Store → Prop := fun r _ => r = .pv (.bool true)
section
variable {w0 : Base} {a d w m a' d' w' m' : Int}
theorem shows34 {b : Bool} (hb : b = true) : selvagelaw16_StatShows.n34 (selvagelaw16_StatShows.X w0 0) w0 0 RT [barS a d w m, barS a' d' w' m'] b := by
  subst hb
  refine selvagelaw16_StatShows.n34_in ?_
  rw [selvagelaw16_StatShows.b34_eq]
  exact fin_keep (Nat.zero_le _) rfl
theorem shows23 (L : Laid w0.w) (ho : okB a d w m = true) {t : Bool} (hb : t = false → okB a' d' w m = true ∧ ((a' > 0 ∧ d' > 0) ↔ (a > 0 ∧ d > 0))) :
    selvagelaw16_StatShows.n23 (selvagelaw16_StatShows.X w0 0) w0 0 RT [barS a d w m, barS a' d' w' m'] (.ptr 0 0) (.ptr 1 0) (refB a d w m).1 (refB a d w m).2 t := by
  refine selvagelaw16_StatShows.n23_in ?_
  rw [selvagelaw16_StatShows.b23_eq]
  refine condB_split (fun h => ?_) (fun h => ?_)
  · exact works_spec L (isB_in (fin_keep (Nat.zero_le _) rfl))
  · obtain ⟨ho', hbb⟩ := hb h
    obtain ⟨h1, h2, h3, h4, h5, h6, h7, h8⟩ := okB_iff.1 ho
    obtain ⟨g1, g2, g3, g4, g5, g6, g7, g8⟩ := okB_iff.1 ho'
    repeat (first | ((with_reducible show opt _ _); refine opt_in rfl ?_) | ((with_reducible show isI _ _ _); refine isI_in ?_) | ((with_reducible show isTup _ _); refine isTup_in ?_))
    refine progBar_spec L ?_
    rw [pro_ref]
    repeat (first | ((with_reducible show opt _ _); refine opt_in rfl ?_) | ((with_reducible show isI _ _ _); refine isI_in ?_) | ((with_reducible show isTup _ _); refine isTup_in ?_))
    obtain ⟨s1, s2, s3, s4, -, -⟩ := bar_shows ho
    obtain ⟨r1, r2, r3, r4, -, -⟩ := bar_shows ho'
    rw [wrap_i64 (n := a' + d') (by omega) (by omega), wrap_i64 (n := a + d) (by omega) (by omega), wrap_i64 (n := (refB a' d' w m).1 + (refB a' d' w m).2) (by omega) (by omega), wrap_i64 (n := (refB a d w m).1 + (refB a d w m).2) (by omega) (by omega)]
    rw [condB_not, condB_decide, condB_decide]
    refine ite_split (fun hm => ?_) (fun hm => ?_)
    · rw [if_pos (bar_mono ho ho' hbb (by omega))]
      exact works_spec L (isB_in (shows34 rfl))
    · exact works_spec L (isB_in (shows34 rfl))
theorem shows15 (L : Laid w0.w) (ho : okB a d w m = true) :
    selvagelaw16_StatShows.n15 (selvagelaw16_StatShows.X w0 0) w0 0 RT [barS a d w m, barS a' d' w' m'] (.ptr 0 0) (.ptr 1 0) (refB a d w m).1 (refB a d w m).2 false := by
  have P : ∀ t, (t = false → okB a' d' w m = true ∧ ((a' > 0 ∧ d' > 0) ↔ (a > 0 ∧ d > 0))) → selvagelaw16_StatShows.n23 (selvagelaw16_StatShows.X w0 0) w0 0 RT [barS a d w m, barS a' d' w' m'] (.ptr 0 0) (.ptr 1 0) (refB a d w m).1 (refB a d w m).2 t := fun t => shows23 L ho
  refine selvagelaw16_StatShows.n15_in ?_
  rw [selvagelaw16_StatShows.b15_eq]
  refine condB_split (fun h => by cases h) (fun _ => ?_)
  obtain ⟨h1, h2, h3, h4, h5, h6, h7, h8⟩ := okB_iff.1 ho
  repeat (first | ((with_reducible show opt _ _); refine opt_in rfl ?_) | ((with_reducible show isI _ _ _); refine isI_in ?_) | ((with_reducible show isTup _ _); refine isTup_in ?_))
  rw [condB_decide]
  refine ite_split (fun h => P _ nofun) (fun g1 => ?_)
  repeat (first | ((with_reducible show opt _ _); refine opt_in rfl ?_) | ((with_reducible show isI _ _ _); refine isI_in ?_) | ((with_reducible show isTup _ _); refine isTup_in ?_))
  rw [condB_decide]
  refine ite_split (fun h => P _ nofun) (fun g2 => ?_)
  repeat (first | ((with_reducible show opt _ _); refine opt_in rfl ?_) | ((with_reducible show isI _ _ _); refine isI_in ?_) | ((with_reducible show isTup _ _); refine isTup_in ?_))
  rw [condB_decide]
  refine ite_split (fun h => P _ nofun) (fun g3 => ?_)
  repeat (first | ((with_reducible show opt _ _); refine opt_in rfl ?_) | ((with_reducible show isI _ _ _); refine isI_in ?_) | ((with_reducible show isTup _ _); refine isTup_in ?_))
  rw [condB_decide]
  refine ite_split (fun h => P _ nofun) (fun g4 => ?_)
  repeat (first | ((with_reducible show opt _ _); refine opt_in rfl ?_) | ((with_reducible show isI _ _ _); refine isI_in ?_) | ((with_reducible show isTup _ _); refine isTup_in ?_))
  rw [condB_decide, wrap_i64 (n := a' + d') (by omega) (by omega)]
  refine ite_split (fun h => P _ nofun) (fun g5 => ?_)
  have ho' : okB a' d' w m = true := okB_iff.2 (by omega)
  repeat (first | ((with_reducible show opt _ _); refine opt_in rfl ?_) | ((with_reducible show isI _ _ _); refine isI_in ?_) | ((with_reducible show isTup _ _); refine isTup_in ?_))
  rw [condB_decide]
  refine ite_split (fun c1 => ?_) (fun c1 => ?_)
  · repeat (first | ((with_reducible show opt _ _); refine opt_in rfl ?_) | ((with_reducible show isI _ _ _); refine isI_in ?_) | ((with_reducible show isTup _ _); refine isTup_in ?_))
    rw [condB_decide]
    refine ite_split (fun c2 => ?_) (fun c2 => ?_)
    · repeat (first | ((with_reducible show opt _ _); refine opt_in rfl ?_) | ((with_reducible show isI _ _ _); refine isI_in ?_) | ((with_reducible show isTup _ _); refine isTup_in ?_))
      refine neq_b4 (isB_in (P _ fun h => ⟨ho', ?_⟩))
      have h := bne_eq_false_iff_eq.1 h
      rw [decide_eq_decide] at h
      omega
    · refine neq_b4 (isB_in (P _ fun h => ⟨ho', ?_⟩))
      have h := bne_eq_false_iff_eq.1 h
      rw [decide_eq_false_iff_not] at h
      omega
  · repeat (first | ((with_reducible show opt _ _); refine opt_in rfl ?_) | ((with_reducible show isI _ _ _); refine isI_in ?_) | ((with_reducible show isTup _ _); refine isTup_in ?_))
    rw [condB_decide]
    refine ite_split (fun c2 => ?_) (fun c2 => ?_)
    · repeat (first | ((with_reducible show opt _ _); refine opt_in rfl ?_) | ((with_reducible show isI _ _ _); refine isI_in ?_) | ((with_reducible show isTup _ _); refine isTup_in ?_))
      refine neq_b4 (isB_in (P _ fun h => ⟨ho', ?_⟩))
      have h := (bne_eq_false_iff_eq.1 h).symm
      rw [decide_eq_false_iff_not] at h
      omega
    · refine neq_b4 (isB_in (P _ fun h => ⟨ho', ?_⟩))
      omega
theorem shows5 (L : Laid w0.w) {t : Bool} (hb : t = false → okB a d w m = true) :
    selvagelaw16_StatShows.n5 (selvagelaw16_StatShows.X w0 0) w0 0 RT [barS a d w m, barS a' d' w' m'] (.ptr 0 0) (.ptr 1 0) t := by
  refine selvagelaw16_StatShows.n5_in ?_
  rw [selvagelaw16_StatShows.b5_eq]
  refine condB_split (fun h => ?_) (fun h => ?_)
  · exact works_spec L (isB_in (fin_keep (Nat.zero_le _) rfl))
  · have ho := hb h
    repeat (first | ((with_reducible show opt _ _); refine opt_in rfl ?_) | ((with_reducible show isI _ _ _); refine isI_in ?_) | ((with_reducible show isTup _ _); refine isTup_in ?_))
    refine progBar_spec L ?_
    rw [pro_ref]
    repeat (first | ((with_reducible show opt _ _); refine opt_in rfl ?_) | ((with_reducible show isI _ _ _); refine isI_in ?_) | ((with_reducible show isTup _ _); refine isTup_in ?_))
    obtain ⟨s1, s2, s3, s4, s5, s6⟩ := bar_shows ho
    obtain ⟨h1, h2, h3, h4, h5, h6, h7, h8⟩ := okB_iff.1 ho
    rw [condB_decide, if_neg (by show ¬ (refB a d w m).1 < 0; omega), condB_decide, if_neg (by show ¬ (refB a d w m).2 < 0; omega)]
    repeat (first | ((with_reducible show opt _ _); refine opt_in rfl ?_) | ((with_reducible show isI _ _ _); refine isI_in ?_) | ((with_reducible show isTup _ _); refine isTup_in ?_))
    rw [wrap_i64 (n := (refB a d w m).1 + (refB a d w m).2) (by omega) (by omega), condB_decide, if_neg (by omega)]
    repeat (first | ((with_reducible show opt _ _); refine opt_in rfl ?_) | ((with_reducible show isI _ _ _); refine isI_in ?_) | ((with_reducible show isTup _ _); refine isTup_in ?_))
    refine neq_b4 (isB_in ?_)
    rw [show (decide ((refB a d w m).1 > 0) != decide (a > 0)) = false from bne_eq_false_iff_eq.2 (decide_eq_decide.2 s5)]
    refine condB_split (fun h => by cases h) (fun _ => ?_)
    repeat (first | ((with_reducible show opt _ _); refine opt_in rfl ?_) | ((with_reducible show isI _ _ _); refine isI_in ?_) | ((with_reducible show isTup _ _); refine isTup_in ?_))
    refine neq_b4 (isB_in ?_)
    rw [show (decide ((refB a d w m).2 > 0) != decide (d > 0)) = false from bne_eq_false_iff_eq.2 (decide_eq_decide.2 s6)]
    exact shows15 L ho
end
theorem StatShows_spec {w0 : Base} (L : Laid w0.w) {p q : PV} (hT : hasT tabS 12 23 p) (hU : hasT tabS 12 23 q) : SCalls (cx w0) selvagelaw16_StatShows.id [.pv p, .pv q] [] fun r _ => r = .pv (.bool true) := by
  obtain ⟨a, d, w, m, e1⟩ := bar_p hT
  obtain ⟨a', d', w', m', e2⟩ := bar_p hU
  rw [e1, e2]
  have P : ∀ t, (t = false → okB a d w m = true) → selvagelaw16_StatShows.n5 (selvagelaw16_StatShows.X w0 0) w0 0 RT [barS a d w m, barS a' d' w' m'] (.ptr 0 0) (.ptr 1 0) t := fun t => shows5 L
  refine selvagelaw16_StatShows.calls ?_
  rw [selvagelaw16_StatShows.b0_eq]
  refine ⟨rfl, rfl, ?_⟩
  repeat (first | ((with_reducible show opt _ _); refine opt_in rfl ?_) | ((with_reducible show isI _ _ _); refine isI_in ?_) | ((with_reducible show isTup _ _); refine isTup_in ?_))
  rw [condB_decide]
  refine ite_split (fun h => P _ nofun) (fun g1 => ?_)
  repeat (first | ((with_reducible show opt _ _); refine opt_in rfl ?_) | ((with_reducible show isI _ _ _); refine isI_in ?_) | ((with_reducible show isTup _ _); refine isTup_in ?_))
  rw [condB_decide]
  refine ite_split (fun h => P _ nofun) (fun g2 => ?_)
  repeat (first | ((with_reducible show opt _ _); refine opt_in rfl ?_) | ((with_reducible show isI _ _ _); refine isI_in ?_) | ((with_reducible show isTup _ _); refine isTup_in ?_))
  rw [condB_decide]
  refine ite_split (fun h => P _ nofun) (fun g3 => ?_)
  repeat (first | ((with_reducible show opt _ _); refine opt_in rfl ?_) | ((with_reducible show isI _ _ _); refine isI_in ?_) | ((with_reducible show isTup _ _); refine isTup_in ?_))
  rw [condB_decide]
  refine ite_split (fun h => P _ nofun) (fun g4 => ?_)
  repeat (first | ((with_reducible show opt _ _); refine opt_in rfl ?_) | ((with_reducible show isI _ _ _); refine isI_in ?_) | ((with_reducible show isTup _ _); refine isTup_in ?_))
  rw [condB_decide]
  refine ite_split (fun h => P _ nofun) (fun g5 => ?_)
  repeat (first | ((with_reducible show opt _ _); refine opt_in rfl ?_) | ((with_reducible show isI _ _ _); refine isI_in ?_) | ((with_reducible show isTup _ _); refine isTup_in ?_))
  rw [condB_decide]
  refine ite_split (fun h => P _ nofun) (fun g6 => ?_)
  repeat (first | ((with_reducible show opt _ _); refine opt_in rfl ?_) | ((with_reducible show isI _ _ _); refine isI_in ?_) | ((with_reducible show isTup _ _); refine isTup_in ?_))
  rw [condB_decide, wrap_i64 (n := a + d) (by omega) (by omega)]
  refine ite_split (fun h => P _ nofun) (fun g7 => ?_)
  repeat (first | ((with_reducible show opt _ _); refine opt_in rfl ?_) | ((with_reducible show isI _ _ _); refine isI_in ?_) | ((with_reducible show isTup _ _); refine isTup_in ?_))
  refine P _ fun h => ?_
  rw [decide_eq_false_iff_not] at h
  exact okB_iff.2 (by omega)
end Go.Sv
