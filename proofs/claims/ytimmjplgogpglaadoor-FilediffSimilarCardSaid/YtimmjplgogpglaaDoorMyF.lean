/- Both searches meet in the middle of a shortest way, and there alone. -/
import Derived.Test.YtimmjplgogpglaaDoorMyE
set_option linter.unusedVariables false
set_option linter.unusedSimpArgs false
namespace Go.Sv
theorem eqL_rev (a b : List Int) : eqL a.reverse b.reverse = revE (eqL a b) a.length b.length := by
  funext i j
  by_cases hi : i < a.length
  · by_cases hj : j < b.length
    · unfold eqL revE
      rw [List.getElem?_reverse hi, List.getElem?_reverse hj, decide_eq_true hi, decide_eq_true hj]
      rfl
    · rw [eqL_out2 (by simpa using hj)]
      unfold revE
      rw [decide_eq_false hj]
      simp
  · rw [eqL_out (by simpa using hi)]
    unfold revE
    rw [decide_eq_false hi]
    rfl
theorem eqL_rev2 (a b : List Int) : revE (eqL a.reverse b.reverse) a.length b.length = eqL a b := by
  have := eqL_rev a.reverse b.reverse
  rw [List.reverse_reverse, List.reverse_reverse, List.length_reverse, List.length_reverse] at this
  exact this.symm
abbrev eF (a b : List Int) : Nat → Nat → Bool := eqL a b
abbrev eB (a b : List Int) : Nat → Nat → Bool := eqL a.reverse b.reverse
theorem rows_meet {a b : List Int} {h h' : Nat} {c d : List Int} (hD : cntL a b = h + h') (rc : RowK (eF a b) a.length b.length h allK c) (rd : RowK (eB a b) a.length b.length h' allK d) :
    ∃ k, rngK a.length b.length h k ∧ rngK a.length b.length h' ((a.length : Int) - b.length - k) ∧ ∀ X X' : Int, c[wix a.length b.length k]? = some X → d[wix a.length b.length ((a.length : Int) - b.length - k)]? = some X' → (a.length : Int) ≤ X + X' := by
  obtain ⟨x, y, h1, h2, h3, h4, h5, h6, h7, h8, h9, hf⟩ := found_law hD
  have par := (way_facts (e := eqL a b) a.length b.length).2.2.2
  unfold cntL at hD
  have k1 : rngK a.length b.length h ((x : Int) - y) := by unfold rngK; omega
  have k2 : rngK a.length b.length h' ((a.length : Int) - b.length - ((x : Int) - y)) := by unfold rngK; omega
  refine ⟨(x : Int) - y, k1, k2, fun X X' hX hX' => ?_⟩
  obtain ⟨X1, Y1, a1, a2, a3⟩ := rc _ k1 trivial
  obtain ⟨X2, Y2, b1, b2, b3⟩ := rd _ k2 trivial
  rw [a2] at hX
  rw [b2] at hX'
  cases hX
  cases hX'
  rw [eB, eqL_rev] at b3
  have := hf X1 Y1 X2 Y2 a3 (by omega) b3 (by omega)
  omega
structure SnakeOut (a b : List Int) (s t x y : Nat) : Prop where
  sx : s ≤ x
  ty : t ≤ y
  xa : x ≤ a.length
  yb : y ≤ b.length
  sum : cntL a b = cntL (a.take s) (b.take t) + cntL (a.drop x) (b.drop y)
  one : 1 ≤ cntL (a.take s) (b.take t)
  two : 1 ≤ cntL (a.drop x) (b.drop y)
theorem snake_ahead {a b : List Int} {h h' s t l x' y' : Nat} (hD : h + h' ≤ cntL a b) (p1 : 1 ≤ h) (p2 : 1 ≤ h') (h1 : wayF (eF a b) s t ≤ h) (hm : ∀ i, i < l → eF a b (s + i) (t + i) = true) (h2 : Far (eB a b) h' x' y') {k : Int} (hk : ((s + l : Nat) : Int) = (t + l : Nat) + k) (hk' : (x' : Int) = y' + ((a.length : Int) - b.length - k))
    (hover : (a.length : Int) ≤ ((s + l : Nat) : Int) + x') : SnakeOut a b s t (s + l) (t + l) := by
  have h2' := h2.le
  rw [eB, eqL_rev] at h2'
  obtain ⟨m1, m2, m3, m4, m5⟩ := middle_law hD h1 hm h2' (by omega) (by omega)
  exact ⟨by omega, by omega, m1, m2, by omega, by omega, by omega⟩
theorem rev_take (a : List Int) (s : Nat) (hs : s ≤ a.length) : a.reverse.take s = (a.drop (a.length - s)).reverse := by
  rw [List.reverse_drop, show a.length - (a.length - s) = s by omega]
theorem rev_drop (a : List Int) (s : Nat) (hs : s ≤ a.length) : a.reverse.drop s = (a.take (a.length - s)).reverse := by
  rw [List.reverse_take, show a.length - (a.length - s) = s by omega]
theorem snake_back {a b : List Int} {h h' s t l x' y' : Nat} (hD : h + h' ≤ cntL a b) (p1 : 1 ≤ h) (p2 : 1 ≤ h') (h1 : wayF (eB a b) s t ≤ h) (hm : ∀ i, i < l → eB a b (s + i) (t + i) = true) (h2 : Far (eF a b) h' x' y') {k : Int} (hk : ((s + l : Nat) : Int) = (t + l : Nat) + k) (hk' : (x' : Int) = y' + ((a.length : Int) - b.length - k))
    (hover : (a.length : Int) ≤ ((s + l : Nat) : Int) + x') : s + l ≤ a.length ∧ t + l ≤ b.length ∧ SnakeOut a b (a.length - (s + l)) (b.length - (t + l)) (a.length - s) (b.length - t) := by
  have h2' := h2.le
  rw [eF, ← eqL_rev2] at h2'
  have hD' : h + h' ≤ cntL a.reverse b.reverse := by rw [cnt_rev]; exact hD
  obtain ⟨m1, m2, m3, m4, m5⟩ := middle_law (a := a.reverse) (b := b.reverse) hD' h1 hm (x' := x') (y' := y') (by rw [List.length_reverse, List.length_reverse]; exact h2') (by rw [List.length_reverse, List.length_reverse]; omega) (by rw [List.length_reverse]; omega)
  rw [List.length_reverse] at m1 m2
  rw [cnt_rev] at m3
  rw [rev_take a s (by omega), rev_take b t (by omega), cnt_rev] at m4
  rw [rev_drop a (s + l) m1, rev_drop b (t + l) m2, cnt_rev] at m5
  exact ⟨m1, m2, by omega, by omega, by omega, by omega, by omega, by omega, by omega⟩
end Go.Sv
