/- Numbers, ranges, a hunk's first line, read: as plain lists; what is printed is read as it was. -/
import Derived.Test.YtebgkjjbbnbnlaaGreatDoorUnJ
import Derived.Test.YtebgkjjbbnbnlaaGreatDoorUnE
set_option linter.unusedVariables false
set_option linter.unusedSimpArgs false
set_option maxRecDepth 100000
namespace Go.Sv
theorem valid_small {h : Hnk} (hv : validF h = true) (ok : HnkOK h) : (0 ≤ h.a ∧ h.a ≤ 2147483647) ∧ (0 ≤ h.n ∧ h.n ≤ 2147483647) ∧ (0 ≤ h.b ∧ h.b ≤ 2147483647) ∧ (0 ≤ h.m ∧ h.m ≤ 2147483647) := by
  obtain ⟨_, f1, f2, f3, f4, f5, f6⟩ := validF_facts hv (Nat.le_trans ok.rows (by decide))
  simp only [validF, Bool.and_eq_true, beq_iff_eq] at hv
  obtain ⟨⟨⟨⟨⟨⟨v1, v2⟩, v3⟩, v4⟩, v5⟩, v6⟩, v7⟩ := hv
  simp only [startB, Bool.and_eq_true, decide_eq_true_eq] at v4 v5
  rw [← v2] at v4
  rw [← v3] at v5
  rw [wrap_i64 (by omega) (by omega)] at v4 v5
  omega
end Go.Sv
