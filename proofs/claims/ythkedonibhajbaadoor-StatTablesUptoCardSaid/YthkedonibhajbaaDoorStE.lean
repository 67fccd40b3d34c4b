/- Bars, as plain numbers: what the program answers is what the document says. What a bar shows, as plain numbers. -/
import Derived.Test.YthkedonibhajbaaDoorStB
set_option linter.unusedVariables false
namespace Go.Sv
section
open Go

theorem scF_eq {x w m : Int} (h0 : 0 ≤ x) (h1 : x ≤ m) (h2 : 2 ≤ w) (h3 : w ≤ 2147483647) (h4 : m ≤ 4294967294) : scF x w m = if x = 0 then 0 else 1 + x * (w - 1) / m := by
  unfold scF
  by_cases hx : x = 0
  · rw [if_pos hx, if_pos hx]
  · rw [if_neg hx, if_neg hx]
    have hm : 0 < m := by omega
    have hb : x * (w - 1) ≤ 4294967294 * 2147483646 := Int.mul_le_mul (by omega) (by omega) (by omega) (by omega)
    have hp : 0 ≤ x * (w - 1) := Int.mul_nonneg h0 (by omega)
    have hq : x * (w - 1) / m ≤ x * (w - 1) := Int.ediv_le_self _ hp
    have hq0 : 0 ≤ x * (w - 1) / m := Int.ediv_nonneg hp (by omega)
    rw [wrap_i64 (n := w - 1) (by omega) (by omega), wrap_i64 (n := x * (w - 1)) (by omega) (by omega), Int.tdiv_eq_ediv_of_nonneg hp, wrap_i64 (n := x * (w - 1) / m) (by omega) (by omega), wrap_i64 (by omega) (by omega)]
theorem okB_iff {a d w m : Int} : okB a d w m = true ↔ 0 ≤ a ∧ a ≤ 2147483647 ∧ 0 ≤ d ∧ d ≤ 2147483647 ∧ 2 ≤ w ∧ w ≤ 2147483647 ∧ a + d ≤ m ∧ m ≤ 4294967294 := by
  simp only [okB, inN, Bool.and_eq_true, decide_eq_true_eq, Bool.not_eq_true', decide_eq_false_iff_not]
  constructor
  · rintro ⟨⟨⟨⟨⟨⟨h1, h2⟩, h3, h4⟩, h5, h6⟩, h7⟩, h8⟩, h9⟩
    rw [wrap_i64 (by omega) (by omega)] at h8
    omega
  · rintro ⟨h1, h2, h3, h4, h5, h6, h7, h8⟩
    rw [wrap_i64 (by omega) (by omega)]
    omega
/-- What both sides of a bar come to. -/
theorem bar_facts {a d w m : Int} (h : okB a d w m = true) (hmw : ¬ m ≤ w) : IntKind.wrap .i64 (a + d) = a + d ∧ fewF a d w m = scF (if d < a then d else a) w m ∧
    0 ≤ scF (if d < a then d else a) w m ∧ 0 ≤ longF a d w m ∧ longF a d w m ≤ 9223372036854775807 ∧ scF (if d < a then d else a) w m ≤ longF a d w m ∧ (0 < a → 0 < d → scF (if d < a then d else a) w m < longF a d w m) := by
  obtain ⟨h1, h2, h3, h4, h5, h6, h7, h8⟩ := okB_iff.1 h
  have hw : IntKind.wrap .i64 (a + d) = a + d := wrap_i64 (by omega) (by omega)
  have hP0 : 0 ≤ (if d < a then d else a) := by split <;> omega
  have hPm : (if d < a then d else a) ≤ m := by split <;> omega
  have hs := scF_eq (x := a + d) (w := w) (m := m) (by omega) h7 h5 h6 h8
  have hp := scF_eq (x := (if d < a then d else a)) hP0 hPm h5 h6 h8
  have hm : 0 < m := by omega
  have h2P : 2 * (if d < a then d else a) ≤ a + d := by split <;> omega
  have hPz : (if d < a then d else a) = 0 ↔ (a = 0 ∨ d = 0) := by split <;> omega
  have hfd : fewF a d w m = if a > 0 ∧ d > 0 then (if IntKind.wrap .i64 (longF a d w m - 1) < (if (1 : Int) > scF (if d < a then d else a) w m then 1 else scF (if d < a then d else a) w m) then IntKind.wrap .i64 (longF a d w m - 1) else (if (1 : Int) > scF (if d < a then d else a) w m then 1 else scF (if d < a then d else a) w m)) else scF (if d < a then d else a) w m := rfl
  generalize (if d < a then d else a) = P at *
  have hq0 : 0 ≤ P * (w - 1) / m := Int.ediv_nonneg (Int.mul_nonneg hP0 (by omega)) (by omega)
  have hqs : 2 * (P * (w - 1) / m) ≤ (a + d) * (w - 1) / m := by
    refine Int.le_ediv_of_mul_le hm ?_
    have e1 : P * (w - 1) / m * m ≤ P * (w - 1) := Int.ediv_mul_le _ (by omega)
    have e2 : 2 * P * (w - 1) ≤ (a + d) * (w - 1) := Int.mul_le_mul_of_nonneg_right h2P (by omega)
    rw [Int.mul_assoc] at e2
    rw [Int.mul_assoc]
    omega
  have hqb : (a + d) * (w - 1) / m ≤ 4294967294 * 2147483646 := by
    have hb : (a + d) * (w - 1) ≤ 4294967294 * 2147483646 := Int.mul_le_mul (by omega) (by omega) (by omega) (by omega)
    exact Int.le_trans (Int.ediv_le_self _ (Int.mul_nonneg (by omega) (by omega))) hb
  have hlong : longF a d w m = if a > 0 ∧ d > 0 then (if (2 : Int) > scF (a + d) w m then 2 else scF (a + d) w m) else scF (a + d) w m := by unfold longF; rw [hw]
  generalize (a + d) * (w - 1) / m = qs at *
  generalize P * (w - 1) / m = q at *
  have hl0 : 0 ≤ longF a d w m := by rw [hlong, hs]; repeat' split <;> omega
  have hl1 : longF a d w m ≤ 9223372036854775807 := by rw [hlong, hs]; repeat' split <;> omega
  have hlt : 0 < a → 0 < d → scF P w m < longF a d w m := by
    intro ha hd
    have es : scF (a + d) w m = 1 + qs := by rw [hs, if_neg (by omega)]
    have ep : scF P w m = 1 + q := by rw [hp, if_neg (by omega)]
    rw [hlong, if_pos ⟨ha, hd⟩, es, ep]
    split <;> omega
  have hfew : fewF a d w m = scF P w m := by
    rw [hfd]
    by_cases hb : a > 0 ∧ d > 0
    · have ep : scF P w m = 1 + q := by rw [hp, if_neg (by omega)]
      have hlt' := hlt hb.1 hb.2
      rw [if_pos hb, wrap_i64 (n := longF a d w m - 1) (by omega) (by omega)]
      rw [ep] at hlt' ⊢
      rw [if_neg (show ¬ (1 : Int) > 1 + q by omega), if_neg (by omega)]
    · rw [if_neg hb]
  refine ⟨hw, hfew, ?_, hl0, hl1, ?_, hlt⟩
  · rw [hp]; split <;> omega
  · rcases Int.lt_or_le 0 a with ha | ha
    · rcases Int.lt_or_le 0 d with hd | hd
      · exact Int.le_of_lt (hlt ha hd)
      · rw [hp, if_pos (hPz.2 (by omega))]; exact hl0
    · rw [hp, if_pos (hPz.2 (by omega))]; exact hl0
theorem pro_ref {a d w m : Int} : proB a d w m = refB a d w m := by
  cases h : okB a d w m with
  | false => rw [proB_bad h, refB_bad h]
  | true =>
    rw [proB_good h, refB_good h]
    by_cases hm : m ≤ w
    · rw [if_pos hm, if_pos hm]
    · rw [if_neg hm, if_neg hm]
      have hf := (bar_facts h hm).2.1
      by_cases had : a ≤ d
      · rw [if_pos had, if_pos had, hf, if_neg (by omega)]
      · rw [if_neg had, if_neg had, hf, if_pos (by omega)]
end
section
open Go

theorem longF_eq {a d w m : Int} (h : okB a d w m = true) : longF a d w m = if a > 0 ∧ d > 0 then (if (2 : Int) > 1 + (a + d) * (w - 1) / m then 2 else 1 + (a + d) * (w - 1) / m) else if a + d = 0 then 0 else 1 + (a + d) * (w - 1) / m := by
  obtain ⟨h1, h2, h3, h4, h5, h6, h7, h8⟩ := okB_iff.1 h
  have hw : IntKind.wrap .i64 (a + d) = a + d := wrap_i64 (by omega) (by omega)
  have hs := scF_eq (x := a + d) (w := w) (m := m) (by omega) h7 h5 h6 h8
  by_cases hb : a > 0 ∧ d > 0
  · have es : scF (a + d) w m = 1 + (a + d) * (w - 1) / m := by rw [hs, if_neg (by omega)]
    unfold longF
    rw [hw, es, if_pos hb, if_pos hb]
  · unfold longF
    rw [hw, hs, if_neg hb, if_neg hb]
theorem quo_facts {s w m : Int} (h0 : 0 ≤ s) (h1 : s ≤ m) (h2 : 2 ≤ w) (hm : 0 < m) : 0 ≤ s * (w - 1) / m ∧ s * (w - 1) / m ≤ w - 1 := by
  refine ⟨Int.ediv_nonneg (Int.mul_nonneg h0 (by omega)) (by omega), Int.ediv_le_of_le_mul hm ?_⟩
  rw [Int.mul_comm (w - 1) m]
  exact Int.mul_le_mul_of_nonneg_right h1 (by omega)
/-- The two parts of a bar. -/
theorem bar_shows {a d w m : Int} (h : okB a d w m = true) : (refB a d w m).1 + (refB a d w m).2 = (if m ≤ w then a + d else longF a d w m) ∧ 0 ≤ (refB a d w m).1 ∧ 0 ≤ (refB a d w m).2 ∧ (refB a d w m).1 + (refB a d w m).2 ≤ w ∧
    (0 < (refB a d w m).1 ↔ 0 < a) ∧ (0 < (refB a d w m).2 ↔ 0 < d) := by
  obtain ⟨h1, h2, h3, h4, h5, h6, h7, h8⟩ := okB_iff.1 h
  rw [refB_good h]
  by_cases hm : m ≤ w
  · rw [if_pos hm, if_pos hm]
    exact ⟨rfl, h1, h3, by show a + d ≤ w; omega, Iff.rfl, Iff.rfl⟩
  · rw [if_neg hm, if_neg hm]
    obtain ⟨f1, f2, f3, f4, f5, f6, f7⟩ := bar_facts h hm
    have hm0 : 0 < m := by omega
    have hq := quo_facts (s := a + d) (w := w) (m := m) (by omega) h7 h5 hm0
    have hl := longF_eq h
    have hP0 : 0 ≤ (if d < a then d else a) := by split <;> omega
    have hPm : (if d < a then d else a) ≤ m := by split <;> omega
    have hp := scF_eq (x := (if d < a then d else a)) hP0 hPm h5 h6 h8
    have hqP := quo_facts (s := (if d < a then d else a)) (w := w) (m := m) hP0 hPm h5 hm0
    have hle : longF a d w m ≤ w := by rw [hl]; repeat' split <;> omega
    have hpos : (0 < scF (if d < a then d else a) w m ↔ 0 < (if d < a then d else a)) := by rw [hp]; constructor <;> intro hh <;> split at * <;> omega
    by_cases had : a ≤ d
    · rw [if_neg (show ¬ d < a by omega)] at *
      rw [if_pos had]
      have hwr : IntKind.wrap .i64 (longF a d w m - scF a w m) = longF a d w m - scF a w m := wrap_i64 (by omega) (by omega)
      simp only [hwr]
      refine ⟨by omega, f3, by omega, by omega, hpos, ?_⟩
      constructor
      · intro hh
        rcases Int.lt_or_le 0 d with hd | hd
        · exact hd
        · exfalso
          have : a = 0 := by omega
          have : d = 0 := by omega
          subst a; subst d
          rw [hl] at hh
          simp at hh
          omega
      · intro hd
        rcases Int.lt_or_le 0 a with ha | ha
        · have := f7 ha hd; omega
        · have e : scF a w m = 0 := by rw [hp, if_pos (by omega)]
          rw [e, hl, if_neg (by omega), if_neg (by omega)]
          omega
    · rw [if_pos (show d < a by omega)] at *
      rw [if_neg had]
      have hwr : IntKind.wrap .i64 (longF a d w m - scF d w m) = longF a d w m - scF d w m := wrap_i64 (by omega) (by omega)
      simp only [hwr]
      refine ⟨by omega, by omega, f3, by omega, ?_, hpos⟩
      constructor
      · intro _; omega
      · intro ha
        rcases Int.lt_or_le 0 d with hd | hd
        · have := f7 ha hd; omega
        · have e : scF d w m = 0 := by rw [hp, if_pos (by omega)]
          rw [e, hl, if_neg (by omega), if_neg (by omega)]
          omega
/-- More lines have no shorter bar. -/
theorem bar_mono {a d a' d' w m : Int} (h : okB a d w m = true) (h' : okB a' d' w m = true) (hb : (a' > 0 ∧ d' > 0) ↔ (a > 0 ∧ d > 0)) (hs : a + d ≤ a' + d') : (refB a d w m).1 + (refB a d w m).2 ≤ (refB a' d' w m).1 + (refB a' d' w m).2 := by
  rw [(bar_shows h).1, (bar_shows h').1]
  obtain ⟨h1, h2, h3, h4, h5, h6, h7, h8⟩ := okB_iff.1 h
  by_cases hm : m ≤ w
  · rw [if_pos hm, if_pos hm]; exact hs
  · rw [if_neg hm, if_neg hm, longF_eq h, longF_eq h']
    have hm0 : 0 < m := by omega
    have hq := quo_facts (s := a + d) (w := w) (m := m) (by omega) h7 h5 hm0
    have hmono : (a + d) * (w - 1) / m ≤ (a' + d') * (w - 1) / m := Int.ediv_le_ediv hm0 (Int.mul_le_mul_of_nonneg_right hs (by omega))
    by_cases hc : a > 0 ∧ d > 0
    · rw [if_pos hc, if_pos (hb.2 hc)]
      repeat' split <;> omega
    · rw [if_neg hc, if_neg (fun h => hc (hb.1 h))]
      repeat' split <;> omega
end
end Go.Sv
