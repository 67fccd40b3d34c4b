/- What a bar shows, as plain numbers. -/
import Derived.Test.YthkedonibhajbaaDoorStC
set_option linter.unusedVariables false
namespace Go.Sv
open Go

theorem longF_eq {a d w m : Int} (h : okB a d w m = true) : longF a d w m = if a > 0 ∧ d > 0 then (if (2 : Int) > 1 + (a + d) * (w - 1) / m then 2 else 1 + (a + d) * (w - 1) / m) else if a + d = 0 then 0 else 1 + (a + d) * (w - 1) / m := by
  obtain ⟨h1, h2, h3, h4, h5, h6, h7, h8⟩ := okB_iff.1 h
  have hw : IntKind.wrap .i64 (a + d) = a + d := wrap_i64 (by omega) (by omega)
  have hs := scF_eq (x := a + d) (w := w) (m := m) (by omega) h7 h5 h6 h8
  by_cases hb : a > 0 ∧ d > 0
  · have es : scF (a + d) w m = 1 + (a + d) * (w - 1) / m := by rw [hs, if_neg (by omega)]
    unfold longF
    rw [hw, es, if_pos hb, if_pos hb]
  · unfold longF
    rw [hw, hs, if_neg hb, if_neg hb]
theorem quo_facts {s w m : Int} (h0 : 0 ≤ s) (h1 : s ≤ m) (h2 : 2 ≤ w) (hm : 0 < m) : 0 ≤ s * (w - 1) / m ∧ s * (w - 1) / m ≤ w - 1 := by
  refine ⟨Int.ediv_nonneg (Int.mul_nonneg h0 (by omega)) (by omega), Int.ediv_le_of_le_mul hm ?_⟩
  rw [Int.mul_comm (w - 1) m]
  exact Int.mul_le_mul_of_nonneg_right h1 (by omega)
/-- The two parts of a bar. -/
theorem bar_shows {a d w m : Int} (h : okB a d w m = true) : (refB a d w m).1 + (refB a d w m).2 = (if m ≤ w then a + d else longF a d w m) ∧ 0 ≤ (refB a d w m).1 ∧ 0 ≤ (refB a d w m).2 ∧ (refB a d w m).1 + (refB a d w m).2 ≤ w ∧
    (0 < (refB a d w m).1 ↔ 0 < a) ∧ (0 < (refB a d w m).2 ↔ 0 < d) := by
  obtain ⟨h1, h2, h3, h4, h5, h6, h7, h8⟩ := okB_iff.1 h
  rw [refB_good h]
  by_cases hm : m ≤ w
  · rw [if_pos hm, if_pos hm]
    exact ⟨rfl, h1, h3, by show a + d ≤ w; omega, Iff.rfl, Iff.rfl⟩
  · rw [if_neg hm, if_neg hm]
    obtain ⟨f1, f2, f3, f4, f5, f6, f7⟩ := bar_facts h hm
    have hm0 : 0 < m := by omega
    have hq := quo_facts (s := a + d) (w := w) (m := m) (by omega) h7 h5 hm0
    have hl := longF_eq h
    have hP0 : 0 ≤ (if d < a then d else a) := by split <;> omega
    have hPm : (if d < a then d else a) ≤ m := by split <;> omega
    have hp := scF_eq (x := (if d < a then d else a)) hP0 hPm h5 h6 h8
    have hqP := quo_facts (s := (if d < a then d else a)) (w := w) (m := m) hP0 hPm h5 hm0
    have hle : longF a d w m ≤ w := by rw [hl]; repeat' split <;> omega
    have hpos : (0 < scF (if d < a then d else a) w m ↔ 0 < (if d < a then d else a)) := by rw [hp]; constructor <;> intro hh <;> split at * <;> omega
    by_cases had : a ≤ d
    · rw [if_neg (show ¬ d < a by omega)] at *
      rw [if_pos had]
      have hwr : IntKind.wrap .i64 (longF a d w m - scF a w m) = longF a d w m - scF a w m := wrap_i64 (by omega) (by omega)
      simp only [hwr]
      refine ⟨by omega, f3, by omega, by omega, hpos, ?_⟩
      constructor
      · intro hh
        rcases Int.lt_or_le 0 d with hd | hd
        · exact hd
        · exfalso
          have : a = 0 := by omega
          have : d = 0 := by omega
          subst a; subst d
          rw [hl] at hh
          simp at hh
          omega
      · intro hd
        rcases Int.lt_or_le 0 a with ha | ha
        · have := f7 ha hd; omega
        · have e : scF a w m = 0 := by rw [hp, if_pos (by omega)]
          rw [e, hl, if_neg (by omega), if_neg (by omega)]
          omega
    · rw [if_pos (show d < a by omega)] at *
      rw [if_neg had]
      have hwr : IntKind.wrap .i64 (longF a d w m - scF d w m) = longF a d w m - scF d w m := wrap_i64 (by omega) (by omega)
      simp only [hwr]
      refine ⟨by omega, by omega, f3, by omega, ?_, hpos⟩
      constructor
      · intro _; omega
      · intro ha
        rcases Int.lt_or_le 0 d with hd | hd
        · have := f7 ha hd; omega
        · have e : scF d w m = 0 := by rw [hp, if_pos (by omega)]
          rw [e, hl, if_neg (by omega), if_neg (by omega)]
          omega
/-- More lines have no shorter bar. -/
theorem bar_mono {a d a' d' w m : Int} (h : okB a d w m = true) (h' : okB a' d' w m = true) (hb : (a' > 0 ∧ d' > 0) ↔ (a > 0 ∧ d > 0)) (hs : a + d ≤ a' + d') : (refB a d w m).1 + (refB a d w m).2 ≤ (refB a' d' w m).1 + (refB a' d' w m).2 := by
  rw [(bar_shows h).1, (bar_shows h').1]
  obtain ⟨h1, h2, h3, h4, h5, h6, h7, h8⟩ := okB_iff.1 h
  by_cases hm : m ≤ w
  · rw [if_pos hm, if_pos hm]; exact hs
  · rw [if_neg hm, if_neg hm, longF_eq h, longF_eq h']
    have hm0 : 0 < m := by omega
    have hq := quo_facts (s := a + d) (w := w) (m := m) (by omega) h7 h5 hm0
    have hmono : (a + d) * (w - 1) / m ≤ (a' + d') * (w - 1) / m := Int.ediv_le_ediv hm0 (Int.mul_le_mul_of_nonneg_right hs (by omega))
    by_cases hc : a > 0 ∧ d > 0
    · rw [if_pos hc, if_pos (hb.2 hc)]
      repeat' split <;> omega
    · rw [if_neg hc, if_neg (fun h => hc (hb.1 h))]
      repeat' split <;> omega
end Go.Sv
