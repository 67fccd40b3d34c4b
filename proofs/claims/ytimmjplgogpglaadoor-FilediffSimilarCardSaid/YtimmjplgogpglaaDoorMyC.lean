/- The middle of a shortest way: where nothing was found before it is found now; the furthest places of a round from those of the round before. -/
import Derived.Test.YtimmjplgogpglaaDoorMyB
set_option linter.unusedVariables false
set_option linter.unusedSimpArgs false
namespace Go.Sv
theorem found_law {a b : List Int} {h h' : Nat} (hD : cntL a b = h + h') : ∃ x y : Nat, x ≤ a.length ∧ y ≤ b.length ∧ h ≤ x + y ∧ x ≤ y + h ∧ y ≤ x + h ∧ h % 2 = (x + y) % 2 ∧ (a.length - x) ≤ (b.length - y) + h' ∧ (b.length - y) ≤ (a.length - x) + h' ∧ h' + x + y ≤ a.length + b.length ∧
    ∀ X Y X' Y', Far (eqL a b) h X Y → X + y = x + Y → Far (revE (eqL a b) a.length b.length) h' X' Y' → X' + (b.length - y) = (a.length - x) + Y' → a.length ≤ X + X' := by
  unfold cntL at hD
  obtain ⟨x, y, h1, h2, h3, h4, h5, h6, h7, h8, h9, h10, h11⟩ := way_mid (e := eqL a b) (n := a.length) (m := b.length) (d := h) (by omega)
  refine ⟨x, y, h1, h2, h3, h4, h5, h6, by omega, by omega, by omega, fun X Y X' Y' f hd f' hd' => ?_⟩
  have g1 := f.max h7 (by omega)
  have g2 := f'.max (x' := a.length - x) (y' := b.length - y) (by omega) (by omega)
  omega
theorem far_next {e : Nat → Nat → Bool} {d s t l : Nat} (hs : wayF e s t ≤ d + 1) (hm : ∀ i, i < l → e (s + i) (t + i) = true) (hn : e (s + l) (t + l) = false)
    (hL : (∃ x y, Far e d x y ∧ x + (t + 1) = s + y ∧ x < s) ∨ s + d < t + 1) (hR : (∃ x y, Far e d x y ∧ x + t = s + 1 + y ∧ x ≤ s) ∨ t + d < s + 1) : Far e (d + 1) (s + l) (t + l) := by
  refine Far.of hs hm hn ?_ ?_
  · rcases hL with ⟨x, y, f, h1, h2⟩ | h
    · exact f.past (x' := s + l) (y' := t + l + 1) (by omega) (by omega)
    · have := way_facts (e := e) (s + l) (t + l + 1)
      omega
  · rcases hR with ⟨x, y, f, h1, h2⟩ | h
    · exact f.past (x' := s + l + 1) (y' := t + l) (by omega) (by omega)
    · have := way_facts (e := e) (s + l + 1) (t + l)
      omega
theorem far_zero {e : Nat → Nat → Bool} {l : Nat} (hm : ∀ i, i < l → e i i = true) (hn : e l l = false) : Far e 0 l l := by
  have := Far.of (e := e) (d := 0) (s := 0) (t := 0) (l := l) (by rw [way_zero]; exact Nat.le_refl _) (fun i hi => by rw [Nat.zero_add]; exact hm i hi) (by rw [Nat.zero_add]; exact hn) (Nat.zero_le _) (Nat.zero_le _)
  simpa using this
theorem way_from_left {e : Nat → Nat → Bool} {d x y : Nat} (f : Far e d x y) : wayF e (x + 1) y ≤ d + 1 := by
  have := (way_V (e := e) x y).1
  have := f.le
  omega
theorem way_from_up {e : Nat → Nat → Bool} {d x y : Nat} (f : Far e d x y) : wayF e x (y + 1) ≤ d + 1 := by
  have := (way_H (e := e) x y).1
  have := f.le
  omega
end Go.Sv
