/- A unified diff, read: as plain lists. What is printed is read as it was. -/
import Derived.Test.YtebgkjjbbnbnlaaGreatDoorUnK
set_option linter.unusedVariables false
set_option linter.unusedSimpArgs false
set_option maxRecDepth 100000
namespace Go.Sv
abbrev Ln := List UInt8
theorem lineB_front : ∀ (s t : Ln), (∀ c ∈ s, c ≠ 10) → lineB t = true → lineB (s ++ t) = true
  | [], t, _, h => h
  | c :: s, t, hs, h => by
    have ih := lineB_front s t (fun x hx => hs x (List.mem_cons_of_mem _ hx)) h
    have hne : s ++ t ≠ [] := by
      intro e
      rw [e] at ih; simp [lineB] at ih
    cases e : s ++ t with
    | nil => exact absurd e hne
    | cons d r =>
      rw [List.cons_append, e]
      rw [e] at ih
      simp only [lineB, Bool.and_eq_true] at ih ⊢
      refine ⟨by simp, ?_⟩
      rw [List.dropLast_cons_cons, List.contains_cons]
      have : ((10 : UInt8) == c) = false := beq_false_of_ne (Ne.symm (hs c (by simp)))
      rw [this, Bool.false_or]
      exact ih.2
theorem dec_no10 : ∀ (u : Nat), ∀ c ∈ Lib.decDigits u, c ≠ 10 := by
  intro u
  induction u using Nat.strongRecOn with
  | ind u ih =>
    intro c hc
    have key : ∀ d : Nat, d < 10 → UInt8.ofNat (48 + d) ≠ 10 := fun d hd e => by
      have := congrArg UInt8.toNat e
      rw [UInt8.toNat_ofNat_of_lt' (show 48 + d < 256 by omega)] at this
      have h10 : UInt8.toNat 10 = 10 := rfl
      omega
    rw [Lib.decDigits] at hc
    split at hc
    · rename_i h
      rw [List.mem_singleton] at hc; subst hc
      exact key u h
    · rcases List.mem_append.1 hc with h1 | h1
      · exact ih (u / 10) (by omega) c h1
      · rw [List.mem_singleton] at h1; subst h1
        exact key (u % 10) (by omega)
theorem span_no10 {a n : Int} (h0 : 0 ≤ a) (h2 : 0 ≤ n) : ∀ c ∈ spanF a n, c ≠ 10 := by
  intro c hc
  unfold spanF at hc
  rw [itoa_dec h0, itoa_dec h2] at hc
  split at hc
  · exact dec_no10 _ c hc
  · simp only [List.mem_append, List.mem_singleton] at hc
    rcases hc with (hc | rfl) | hc
    · exact dec_no10 _ c hc
    · decide
    · exact dec_no10 _ c hc
theorem shown_no10 {p s : Ln} (h : nameOKB p s = true) : ∀ c ∈ shownF p s, c ≠ 10 := by
  simp only [nameOKB, Bool.and_eq_true, Bool.not_eq_true'] at h
  have hs : ∀ c ∈ s, c ≠ 10 := fun c hc e => by
    have : hasB s [9, 10, 0] = true := by
      unfold hasB
      rw [List.any_eq_true]
      exact ⟨c, hc, by subst e; rfl⟩
    rw [h.2] at this; cases this
  intro c hc
  unfold shownF at hc
  split at hc
  · exact quote_no10 c hc
  · simp only [List.mem_append, List.mem_singleton] at hc
    rcases hc with (hc | rfl) | hc
    · exact quote_no10 c hc
    · decide
    · exact hs c hc
end Go.Sv
