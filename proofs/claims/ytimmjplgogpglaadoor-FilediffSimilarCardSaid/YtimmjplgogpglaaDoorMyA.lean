/- Shortest ways through a grid, as plain numbers: what a step costs, ways that are put together, cut and turned round; the furthest place on a diagonal. -/
import Derived.Test.YtimmjplgogpglaaDoorSvQ
set_option linter.unusedVariables false
set_option linter.unusedSimpArgs false
namespace Go.Sv
def wayF (e : Nat → Nat → Bool) : Nat → Nat → Nat
  | 0, j => j
  | i + 1, 0 => i + 1
  | i + 1, j + 1 => if e i j = true then wayF e i j else 1 + min (wayF e i (j + 1)) (wayF e (i + 1) j)
termination_by i j => (i, j)
variable {e : Nat → Nat → Bool}
theorem way_zero (j : Nat) : wayF e 0 j = j := by rw [wayF]
theorem way_left (i : Nat) : wayF e i 0 = i := by
  cases i with
  | zero => rw [wayF]
  | succ i => rw [wayF]
theorem way_hit {i j : Nat} (h : e i j = true) : wayF e (i + 1) (j + 1) = wayF e i j := by rw [wayF, if_pos h]
theorem way_miss {i j : Nat} (h : e i j = false) : wayF e (i + 1) (j + 1) = 1 + min (wayF e i (j + 1)) (wayF e (i + 1) j) := by rw [wayF, if_neg (by rw [h]; decide)]
def HB1 (e : Nat → Nat → Bool) (i j : Nat) : Prop := wayF e i (j + 1) ≤ wayF e i j + 1 ∧ wayF e i j ≤ wayF e i (j + 1) + 1
def VB1 (e : Nat → Nat → Bool) (i j : Nat) : Prop := wayF e (i + 1) j ≤ wayF e i j + 1 ∧ wayF e i j ≤ wayF e (i + 1) j + 1
theorem way_square {i j : Nat} (h : HB1 e i j) (v : VB1 e i j) : VB1 e i (j + 1) ∧ HB1 e (i + 1) j := by
  unfold HB1 VB1 at *
  cases hb : e i j with
  | true => rw [way_hit hb]; omega
  | false => rw [way_miss hb]; omega
theorem way_row (i : Nat) (h : ∀ j, HB1 e i j) : ∀ j, VB1 e i j ∧ HB1 e (i + 1) j
  | 0 => by
    have v : VB1 e i 0 := by unfold VB1; rw [way_left, way_left]; omega
    exact ⟨v, (way_square (h 0) v).2⟩
  | j + 1 => by
    have v := (way_square (h j) (way_row i h j).1).1
    exact ⟨v, (way_square (h (j + 1)) v).2⟩
theorem way_H : ∀ i j : Nat, HB1 e i j
  | 0, j => by unfold HB1; rw [way_zero, way_zero]; omega
  | i + 1, j => (way_row i (way_H i) j).2
theorem way_V (i j : Nat) : VB1 e i j := (way_row i (way_H i) j).1
theorem way_diag (i j : Nat) : wayF e i j ≤ wayF e (i + 1) (j + 1) := by
  have h := way_H (e := e) i j
  have v := way_V (e := e) i j
  unfold HB1 at h; unfold VB1 at v
  cases hb : e i j with
  | true => rw [way_hit hb]; omega
  | false => rw [way_miss hb]; omega
theorem way_diags (i j : Nat) : ∀ t : Nat, wayF e i j ≤ wayF e (i + t) (j + t)
  | 0 => Nat.le_refl _
  | t + 1 => Nat.le_trans (way_diags i j t) (way_diag (i + t) (j + t))
inductive Way (e : Nat → Nat → Bool) (p q : Nat) : Nat → Nat → Nat → Prop
  | here : Way e p q p q 0
  | right {i j c : Nat} (w : Way e p q i j c) : Way e p q (i + 1) j (c + 1)
  | down {i j c : Nat} (w : Way e p q i j c) : Way e p q i (j + 1) (c + 1)
  | diag {i j c : Nat} (h : e i j = true) (w : Way e p q i j c) : Way e p q (i + 1) (j + 1) c
theorem Way.to {e : Nat → Nat → Bool} {p q i j c d : Nat} (w : Way e p q i j c) (h : c = d) : Way e p q i j d := h ▸ w
theorem Way.cat {p q i j c k l d : Nat} (w : Way e p q i j c) (v : Way e i j k l d) : Way e p q k l (c + d) := by
  induction v with
  | here => exact w
  | right _ ih => exact ih.right
  | down _ ih => exact ih.down
  | diag h _ ih => exact ih.diag h
theorem Way.le {i j c : Nat} (w : Way e 0 0 i j c) : wayF e i j ≤ c := by
  induction w with
  | here => rw [way_zero]; exact Nat.le_refl _
  | @right i j c _ ih => have := (way_V (e := e) i j).1; omega
  | @down i j c _ ih => have := (way_H (e := e) i j).1; omega
  | diag h _ ih => rw [way_hit h]; exact ih
theorem way_has : ∀ i j : Nat, Way e 0 0 i j (wayF e i j)
  | 0, 0 => by rw [way_zero]; exact .here
  | 0, j + 1 => by rw [way_zero]; exact ((way_has 0 j).down).to (by rw [way_zero])
  | i + 1, 0 => by rw [way_left]; exact ((way_has i 0).right).to (by rw [way_left])
  | i + 1, j + 1 => by
    cases hb : e i j with
    | true => rw [way_hit hb]; exact (way_has i j).diag hb
    | false =>
      rw [way_miss hb]
      by_cases h : wayF e i (j + 1) ≤ wayF e (i + 1) j
      · exact ((way_has i (j + 1)).right).to (by omega)
      · exact ((way_has (i + 1) j).down).to (by omega)
termination_by i j => (i, j)
theorem Way.facts {p q i j c : Nat} (w : Way e p q i j c) : p ≤ i ∧ q ≤ j ∧ c + p + q ≤ i + j ∧ i + q ≤ j + p + c ∧ j + p ≤ i + q + c ∧ (c + p + q) % 2 = (i + j) % 2 := by
  induction w with
  | here => omega
  | right _ ih => omega
  | down _ ih => omega
  | diag _ _ ih => omega
theorem Way.cut {p q i j c : Nat} (w : Way e p q i j c) : ∀ d, d ≤ c → ∃ x y, Way e p q x y d ∧ Way e x y i j (c - d) := by
  induction w with
  | here =>
    intro d h
    have : d = 0 := by omega
    subst this
    exact ⟨p, q, .here, .here⟩
  | @right i j c w ih =>
    intro d h
    by_cases g : d = c + 1
    · subst g; exact ⟨i + 1, j, w.right, (Way.here).to (by omega)⟩
    · obtain ⟨x, y, h1, h2⟩ := ih d (by omega)
      exact ⟨x, y, h1, h2.right.to (by omega)⟩
  | @down i j c w ih =>
    intro d h
    by_cases g : d = c + 1
    · subst g; exact ⟨i, j + 1, w.down, (Way.here).to (by omega)⟩
    · obtain ⟨x, y, h1, h2⟩ := ih d (by omega)
      exact ⟨x, y, h1, h2.down.to (by omega)⟩
  | diag hh w ih =>
    intro d h
    obtain ⟨x, y, h1, h2⟩ := ih d h
    exact ⟨x, y, h1, h2.diag hh⟩
def revE (e : Nat → Nat → Bool) (n m i j : Nat) : Bool := decide (i < n) && (decide (j < m) && e (n - 1 - i) (m - 1 - j))
theorem Way.rev {n m p q i j c : Nat} (w : Way e p q i j c) : i ≤ n → j ≤ m → Way (revE e n m) (n - i) (m - j) (n - p) (m - q) c := by
  induction w with
  | here => intro _ _; exact .here
  | @right i j c w ih =>
    intro h1 h2
    have s : Way (revE e n m) (n - (i + 1)) (m - j) (n - i) (m - j) 1 := by
      have := (Way.here (e := revE e n m) (p := n - (i + 1)) (q := m - j)).right
      rwa [show n - (i + 1) + 1 = n - i by omega] at this
    exact (s.cat (ih (by omega) h2)).to (by omega)
  | @down i j c w ih =>
    intro h1 h2
    have s : Way (revE e n m) (n - i) (m - (j + 1)) (n - i) (m - j) 1 := by
      have := (Way.here (e := revE e n m) (p := n - i) (q := m - (j + 1))).down
      rwa [show m - (j + 1) + 1 = m - j by omega] at this
    exact (s.cat (ih h1 (by omega))).to (by omega)
  | @diag i j c hh w ih =>
    intro h1 h2
    have s : Way (revE e n m) (n - (i + 1)) (m - (j + 1)) (n - i) (m - j) 0 := by
      have he : revE e n m (n - (i + 1)) (m - (j + 1)) = true := by
        unfold revE
        rw [decide_eq_true (by omega : n - (i + 1) < n), decide_eq_true (by omega : m - (j + 1) < m), show n - 1 - (n - (i + 1)) = i by omega, show m - 1 - (m - (j + 1)) = j by omega, hh]
        rfl
      have := (Way.here (e := revE e n m) (p := n - (i + 1)) (q := m - (j + 1))).diag he
      rwa [show n - (i + 1) + 1 = n - i by omega, show m - (j + 1) + 1 = m - j by omega] at this
    exact (s.cat (ih (by omega) (by omega))).to (by omega)
theorem Way.unrev {n m p q i j c : Nat} (w : Way (revE e n m) p q i j c) : i ≤ n → j ≤ m → Way e (n - i) (m - j) (n - p) (m - q) c := by
  induction w with
  | here => intro _ _; exact .here
  | @right i j c w ih =>
    intro h1 h2
    have s : Way e (n - (i + 1)) (m - j) (n - i) (m - j) 1 := by
      have := (Way.here (e := e) (p := n - (i + 1)) (q := m - j)).right
      rwa [show n - (i + 1) + 1 = n - i by omega] at this
    exact (s.cat (ih (by omega) h2)).to (by omega)
  | @down i j c w ih =>
    intro h1 h2
    have s : Way e (n - i) (m - (j + 1)) (n - i) (m - j) 1 := by
      have := (Way.here (e := e) (p := n - i) (q := m - (j + 1))).down
      rwa [show m - (j + 1) + 1 = m - j by omega] at this
    exact (s.cat (ih h1 (by omega))).to (by omega)
  | @diag i j c hh w ih =>
    intro h1 h2
    have s : Way e (n - (i + 1)) (m - (j + 1)) (n - i) (m - j) 0 := by
      have he : e (n - (i + 1)) (m - (j + 1)) = true := by
        unfold revE at hh
        rw [Bool.and_eq_true, Bool.and_eq_true] at hh
        rw [show n - (i + 1) = n - 1 - i by omega, show m - (j + 1) = m - 1 - j by omega]
        exact hh.2.2
      have := (Way.here (e := e) (p := n - (i + 1)) (q := m - (j + 1))).diag he
      rwa [show n - (i + 1) + 1 = n - i by omega, show m - (j + 1) + 1 = m - j by omega] at this
    exact (s.cat (ih (by omega) (by omega))).to (by omega)
theorem way_over {n m i j : Nat} (hi : i ≤ n) (hj : j ≤ m) : wayF e n m ≤ wayF e i j + wayF (revE e n m) (n - i) (m - j) := by
  have h := (way_has (e := revE e n m) (n - i) (m - j)).unrev (by omega) (by omega)
  rw [show n - (n - i) = i by omega, show m - (m - j) = j by omega, Nat.sub_zero, Nat.sub_zero] at h
  exact ((way_has i j).cat h).le
theorem way_mid {n m d : Nat} (hd : d ≤ wayF e n m) : ∃ x y, x ≤ n ∧ y ≤ m ∧ d ≤ x + y ∧ x ≤ y + d ∧ y ≤ x + d ∧ d % 2 = (x + y) % 2 ∧ wayF e x y ≤ d ∧ wayF (revE e n m) (n - x) (m - y) ≤ wayF e n m - d ∧ (n - x) ≤ (m - y) + (wayF e n m - d) ∧ (m - y) ≤ (n - x) + (wayF e n m - d) ∧ wayF e n m - d + x + y ≤ n + m := by
  obtain ⟨x, y, h1, h2⟩ := (way_has (e := e) n m).cut d hd
  have f1 := h1.facts
  have f2 := h2.facts
  have h3 := h2.rev (n := n) (m := m) (Nat.le_refl _) (Nat.le_refl _)
  rw [Nat.sub_self, Nat.sub_self] at h3
  exact ⟨x, y, f2.1, f2.2.1, by omega, by omega, by omega, by omega, h1.le, h3.le, by omega, by omega, f2.2.2.1⟩
theorem way_rev {n m : Nat} : wayF (revE e n m) n m = wayF e n m := by
  have h1 := ((way_has (e := e) n m).rev (n := n) (m := m) (Nat.le_refl _) (Nat.le_refl _))
  have h2 := ((way_has (e := revE e n m) n m).unrev (Nat.le_refl _) (Nat.le_refl _))
  simp only [Nat.sub_self, Nat.sub_zero] at h1 h2
  have := h1.le
  have := h2.le
  omega
theorem way_facts (i j : Nat) : wayF e i j ≤ i + j ∧ i ≤ j + wayF e i j ∧ j ≤ i + wayF e i j ∧ wayF e i j % 2 = (i + j) % 2 := by
  have := (way_has (e := e) i j).facts
  omega
theorem way_out {n : Nat} (he : ∀ i j, n ≤ i → e i j = false) (y : Nat) : ∀ t : Nat, wayF e (n + t) y = wayF e n y + t
  | 0 => rfl
  | t + 1 => by
    have key : ∀ y, wayF e (n + t + 1) y = wayF e (n + t) y + 1 := by
      intro y
      induction y with
      | zero => rw [way_left, way_left]
      | succ y ihy =>
        rw [way_miss (he _ _ (by omega)), ihy]
        have := (way_H (e := e) (n + t) y).1
        omega
    rw [← Nat.add_assoc, key, way_out he y t]
    omega
theorem way_out2 {m : Nat} (he : ∀ i j, m ≤ j → e i j = false) (x : Nat) : ∀ t : Nat, wayF e x (m + t) = wayF e x m + t
  | 0 => rfl
  | t + 1 => by
    have key : ∀ x, wayF e x (m + t + 1) = wayF e x (m + t) + 1 := by
      intro x
      induction x with
      | zero => rw [way_zero, way_zero]
      | succ x ihx =>
        rw [way_miss (he _ _ (by omega)), ihx]
        have := (way_V (e := e) x (m + t)).1
        omega
    rw [← Nat.add_assoc, key, way_out2 he x t]
    omega
structure Far (e : Nat → Nat → Bool) (d x y : Nat) : Prop where
  le : wayF e x y ≤ d
  lt : d < wayF e (x + 1) (y + 1)
theorem Far.past {d x y x' y' : Nat} (f : Far e d x y) (h : x < x') (hd : x' + y = x + y') : d < wayF e x' y' := by
  have := way_diags (e := e) (x + 1) (y + 1) (x' - (x + 1))
  rw [show x + 1 + (x' - (x + 1)) = x' by omega, show y + 1 + (x' - (x + 1)) = y' by omega] at this
  exact Nat.lt_of_lt_of_le f.lt this
theorem Far.max {d x y x' y' : Nat} (f : Far e d x y) (h : wayF e x' y' ≤ d) (hd : x' + y = x + y') : x' ≤ x := by
  by_cases g : x < x'
  · have := f.past g hd; omega
  · omega
theorem run_same {s t : Nat} : ∀ l : Nat, (∀ i, i < l → e (s + i) (t + i) = true) → wayF e (s + l) (t + l) = wayF e s t
  | 0, _ => rfl
  | l + 1, h => by
    show wayF e (s + l + 1) (t + l + 1) = _
    rw [way_hit (h l (by omega))]
    exact run_same l (fun i hi => h i (by omega))
theorem Far.of {d s t l : Nat} (h : wayF e s t ≤ d) (hm : ∀ i, i < l → e (s + i) (t + i) = true) (hn : e (s + l) (t + l) = false) (hl : d ≤ wayF e (s + l) (t + l + 1)) (hr : d ≤ wayF e (s + l + 1) (t + l)) : Far e d (s + l) (t + l) := by
  refine ⟨by rw [run_same l hm]; exact h, ?_⟩
  rw [way_miss hn]; omega
end Go.Sv
