/- Package unified, reading, as plain lists: lines, names in quotes, numbers, a hunk's first line. What is printed is read as it was. -/
import Derived.Test.YtebgkjjbbnbnlaaGreatDoorUnD
import Derived.Test.YtebgkjjbbnbnlaaGreatDoorHl
set_option linter.unusedVariables false
set_option linter.unusedSimpArgs false
set_option maxRecDepth 100000
namespace Go.Sv
def splitF : List UInt8 → List (List UInt8)
  | [] => []
  | c :: r => if c = 10 then [10] :: splitF r else match splitF r with
    | [] => [[c]]
    | l :: ls => (c :: l) :: ls
theorem splitF_flat : ∀ s : List UInt8, (splitF s).flatten = s
  | [] => rfl
  | c :: r => by
    have ih := splitF_flat r
    unfold splitF
    split
    · rename_i h; subst h; simp [ih]
    · split
      · rename_i h; rw [h] at ih; simp at ih; subst ih; rfl
      · rename_i l ls h; rw [h] at ih; simp only [List.flatten_cons, List.cons_append] at ih ⊢; rw [ih]
theorem splitF_nil {s : List UInt8} (h : splitF s = []) : s = [] := by
  have := splitF_flat s
  rw [h] at this
  simpa using this.symm
def endB (s : List UInt8) : Bool := s == [] || wholeB s
theorem wholeB_cons {c : UInt8} {r : List UInt8} (h : r ≠ []) : wholeB (c :: r) = wholeB r := by
  cases r with
  | nil => exact absurd rfl h
  | cons d r => simp [wholeB]
theorem wholeB_append {s t : List UInt8} (h : t ≠ []) : wholeB (s ++ t) = wholeB t := by
  induction s with
  | nil => rfl
  | cons c s ih => rw [List.cons_append, wholeB_cons (by simp [h]), ih]
theorem splitF_append : ∀ (s t : List UInt8), endB s = true → splitF (s ++ t) = splitF s ++ splitF t
  | [], t, _ => rfl
  | c :: r, t, h => by
    simp only [List.cons_append]
    by_cases hc : c = 10
    · subst hc
      have hr : endB r = true := by
        cases r with
        | nil => rfl
        | cons d r => simpa [endB, wholeB_cons] using h
      rw [splitF, splitF, if_pos rfl, if_pos rfl, splitF_append r t hr]; rfl
    · have hr : wholeB r = true ∧ r ≠ [] := by
        cases r with
        | nil => simp [endB, wholeB, hc] at h
        | cons d r => exact ⟨by simpa [endB, wholeB_cons] using h, by simp⟩
      rw [splitF, splitF, if_neg hc, if_neg hc, splitF_append r t (by simp [endB, hr.1])]
      have hne : splitF r ≠ [] := fun e => hr.2 (splitF_nil e)
      cases hs : splitF r with
      | nil => exact absurd hs hne
      | cons l ls => simp
theorem splitF_line : ∀ (s : List UInt8), lineB s = true → splitF s = [s]
  | [], h => by simp [lineB] at h
  | c :: r, h => by
    cases r with
    | nil =>
      unfold splitF
      split
      · rename_i e; subst e; rfl
      · rfl
    | cons d r =>
      simp only [lineB, Bool.and_eq_true, List.dropLast_cons_cons, List.contains_cons, Bool.not_or] at h
      have hc : ¬ c = 10 := fun e => by subst e; simp at h
      have ih := splitF_line (d :: r) (by simp only [lineB, Bool.and_eq_true]; exact ⟨by simp, h.2.2⟩)
      rw [splitF, if_neg hc, ih]
theorem splitF_first : ∀ (s : List UInt8), s ≠ [] → ∃ k : Nat, 0 < k ∧ k ≤ s.length ∧ (if Lib.indexByte s 10 = -1 then (s.length : Int) else Lib.indexByte s 10 + 1) = (k : Int) ∧ splitF s = s.take k :: splitF (s.drop k)
  | [], h => absurd rfl h
  | c :: r, _ => by
    have hge := Lib.indexByte_ge r 10
    rw [Lib.indexByte]
    by_cases hc : c = 10
    · subst hc
      exact ⟨1, by decide, by simp, by simp, by simp [splitF]⟩
    · have hb : (c == 10) = false := beq_false_of_ne hc
      rw [hb]
      simp only [Bool.false_eq_true, if_false]
      cases r with
      | nil => exact ⟨1, by decide, by simp, by simp [Lib.indexByte], by simp [splitF, hc]⟩
      | cons d r =>
        obtain ⟨k, h1, h2, h3, h4⟩ := splitF_first (d :: r) (by simp)
        refine ⟨k + 1, by omega, by simp only [List.length_cons] at h2 ⊢; omega, ?_, ?_⟩
        · by_cases hm : Lib.indexByte (d :: r) 10 = -1
          · rw [hm] at h3 ⊢
            simp only [if_true, beq_self_eq_true] at h3 ⊢
            simp only [List.length_cons] at h3 ⊢
            omega
          · have hb2 : (Lib.indexByte (d :: r) 10 == -1) = false := beq_false_of_ne hm
            rw [if_neg hm] at h3
            rw [hb2]
            simp only [Bool.false_eq_true, if_false]
            rw [if_neg (by omega)]
            omega
        · rw [splitF, if_neg hc, h4]; rfl
end Go.Sv
