/- Shortest ways through a grid, as plain numbers: what a step costs, ways that are put together, cut and turned round; the furthest place on a diagonal. Shortest scripts between two rows of numbers, as plain numbers: what is left out at the ends, and the middle of a shortest way. The middle of a shortest way: where nothing was found before it is found now; the furthest places of a round from those of the round before. Marks of what goes and comes, as plain rows: boxes that are left to do, from right to left. The rounds of the search for the middle of a shortest way: what stands in a row that goes round. Both searches meet in the middle of a shortest way, and there alone. -/
import Derived.Test.YtimmjplgogpglaaDoorSvQ
set_option linter.unusedVariables false
set_option linter.unusedSimpArgs false
section
namespace Go.Sv
def wayF (e : Nat → Nat → Bool) : Nat → Nat → Nat
  | 0, j => j
  | i + 1, 0 => i + 1
  | i + 1, j + 1 => if e i j = true then wayF e i j else 1 + min (wayF e i (j + 1)) (wayF e (i + 1) j)
termination_by i j => (i, j)
variable {e : Nat → Nat → Bool}
theorem way_zero (j : Nat) : wayF e 0 j = j := by rw [wayF]
theorem way_left (i : Nat) : wayF e i 0 = i := by
  cases i with
  | zero => rw [wayF]
  | succ i => rw [wayF]
theorem way_hit {i j : Nat} (h : e i j = true) : wayF e (i + 1) (j + 1) = wayF e i j := by rw [wayF, if_pos h]
theorem way_miss {i j : Nat} (h : e i j = false) : wayF e (i + 1) (j + 1) = 1 + min (wayF e i (j + 1)) (wayF e (i + 1) j) := by rw [wayF, if_neg (by rw [h]; decide)]
def HB1 (e : Nat → Nat → Bool) (i j : Nat) : Prop := wayF e i (j + 1) ≤ wayF e i j + 1 ∧ wayF e i j ≤ wayF e i (j + 1) + 1
def VB1 (e : Nat → Nat → Bool) (i j : Nat) : Prop := wayF e (i + 1) j ≤ wayF e i j + 1 ∧ wayF e i j ≤ wayF e (i + 1) j + 1
theorem way_square {i j : Nat} (h : HB1 e i j) (v : VB1 e i j) : VB1 e i (j + 1) ∧ HB1 e (i + 1) j := by
  unfold HB1 VB1 at *
  cases hb : e i j with
  | true => rw [way_hit hb]; omega
  | false => rw [way_miss hb]; omega
theorem way_row (i : Nat) (h : ∀ j, HB1 e i j) : ∀ j, VB1 e i j ∧ HB1 e (i + 1) j
  | 0 => by
    have v : VB1 e i 0 := by unfold VB1; rw [way_left, way_left]; omega
    exact ⟨v, (way_square (h 0) v).2⟩
  | j + 1 => by
    have v := (way_square (h j) (way_row i h j).1).1
    exact ⟨v, (way_square (h (j + 1)) v).2⟩
theorem way_H : ∀ i j : Nat, HB1 e i j
  | 0, j => by unfold HB1; rw [way_zero, way_zero]; omega
  | i + 1, j => (way_row i (way_H i) j).2
theorem way_V (i j : Nat) : VB1 e i j := (way_row i (way_H i) j).1
theorem way_diag (i j : Nat) : wayF e i j ≤ wayF e (i + 1) (j + 1) := by
  have h := way_H (e := e) i j
  have v := way_V (e := e) i j
  unfold HB1 at h; unfold VB1 at v
  cases hb : e i j with
  | true => rw [way_hit hb]; omega
  | false => rw [way_miss hb]; omega
theorem way_diags (i j : Nat) : ∀ t : Nat, wayF e i j ≤ wayF e (i + t) (j + t)
  | 0 => Nat.le_refl _
  | t + 1 => Nat.le_trans (way_diags i j t) (way_diag (i + t) (j + t))
inductive Way (e : Nat → Nat → Bool) (p q : Nat) : Nat → Nat → Nat → Prop
  | here : Way e p q p q 0
  | right {i j c : Nat} (w : Way e p q i j c) : Way e p q (i + 1) j (c + 1)
  | down {i j c : Nat} (w : Way e p q i j c) : Way e p q i (j + 1) (c + 1)
  | diag {i j c : Nat} (h : e i j = true) (w : Way e p q i j c) : Way e p q (i + 1) (j + 1) c
theorem Way.to {e : Nat → Nat → Bool} {p q i j c d : Nat} (w : Way e p q i j c) (h : c = d) : Way e p q i j d := h ▸ w
theorem Way.cat {p q i j c k l d : Nat} (w : Way e p q i j c) (v : Way e i j k l d) : Way e p q k l (c + d) := by
  induction v with
  | here => exact w
  | right _ ih => exact ih.right
  | down _ ih => exact ih.down
  | diag h _ ih => exact ih.diag h
theorem Way.le {i j c : Nat} (w : Way e 0 0 i j c) : wayF e i j ≤ c := by
  induction w with
  | here => rw [way_zero]; exact Nat.le_refl _
  | @right i j c _ ih => have := (way_V (e := e) i j).1; omega
  | @down i j c _ ih => have := (way_H (e := e) i j).1; omega
  | diag h _ ih => rw [way_hit h]; exact ih
theorem way_has : ∀ i j : Nat, Way e 0 0 i j (wayF e i j)
  | 0, 0 => by rw [way_zero]; exact .here
  | 0, j + 1 => by rw [way_zero]; exact ((way_has 0 j).down).to (by rw [way_zero])
  | i + 1, 0 => by rw [way_left]; exact ((way_has i 0).right).to (by rw [way_left])
  | i + 1, j + 1 => by
    cases hb : e i j with
    | true => rw [way_hit hb]; exact (way_has i j).diag hb
    | false =>
      rw [way_miss hb]
      by_cases h : wayF e i (j + 1) ≤ wayF e (i + 1) j
      · exact ((way_has i (j + 1)).right).to (by omega)
      · exact ((way_has (i + 1) j).down).to (by omega)
termination_by i j => (i, j)
theorem Way.facts {p q i j c : Nat} (w : Way e p q i j c) : p ≤ i ∧ q ≤ j ∧ c + p + q ≤ i + j ∧ i + q ≤ j + p + c ∧ j + p ≤ i + q + c ∧ (c + p + q) % 2 = (i + j) % 2 := by
  induction w with
  | here => omega
  | right _ ih => omega
  | down _ ih => omega
  | diag _ _ ih => omega
theorem Way.cut {p q i j c : Nat} (w : Way e p q i j c) : ∀ d, d ≤ c → ∃ x y, Way e p q x y d ∧ Way e x y i j (c - d) := by
  induction w with
  | here =>
    intro d h
    have : d = 0 := by omega
    subst this
    exact ⟨p, q, .here, .here⟩
  | @right i j c w ih =>
    intro d h
    by_cases g : d = c + 1
    · subst g; exact ⟨i + 1, j, w.right, (Way.here).to (by omega)⟩
    · obtain ⟨x, y, h1, h2⟩ := ih d (by omega)
      exact ⟨x, y, h1, h2.right.to (by omega)⟩
  | @down i j c w ih =>
    intro d h
    by_cases g : d = c + 1
    · subst g; exact ⟨i, j + 1, w.down, (Way.here).to (by omega)⟩
    · obtain ⟨x, y, h1, h2⟩ := ih d (by omega)
      exact ⟨x, y, h1, h2.down.to (by omega)⟩
  | diag hh w ih =>
    intro d h
    obtain ⟨x, y, h1, h2⟩ := ih d h
    exact ⟨x, y, h1, h2.diag hh⟩
def revE (e : Nat → Nat → Bool) (n m i j : Nat) : Bool := decide (i < n) && (decide (j < m) && e (n - 1 - i) (m - 1 - j))
theorem Way.rev {n m p q i j c : Nat} (w : Way e p q i j c) : i ≤ n → j ≤ m → Way (revE e n m) (n - i) (m - j) (n - p) (m - q) c := by
  induction w with
  | here => intro _ _; exact .here
  | @right i j c w ih =>
    intro h1 h2
    have s : Way (revE e n m) (n - (i + 1)) (m - j) (n - i) (m - j) 1 := by
      have := (Way.here (e := revE e n m) (p := n - (i + 1)) (q := m - j)).right
      rwa [show n - (i + 1) + 1 = n - i by omega] at this
    exact (s.cat (ih (by omega) h2)).to (by omega)
  | @down i j c w ih =>
    intro h1 h2
    have s : Way (revE e n m) (n - i) (m - (j + 1)) (n - i) (m - j) 1 := by
      have := (Way.here (e := revE e n m) (p := n - i) (q := m - (j + 1))).down
      rwa [show m - (j + 1) + 1 = m - j by omega] at this
    exact (s.cat (ih h1 (by omega))).to (by omega)
  | @diag i j c hh w ih =>
    intro h1 h2
    have s : Way (revE e n m) (n - (i + 1)) (m - (j + 1)) (n - i) (m - j) 0 := by
      have he : revE e n m (n - (i + 1)) (m - (j + 1)) = true := by
        unfold revE
        rw [decide_eq_true (by omega : n - (i + 1) < n), decide_eq_true (by omega : m - (j + 1) < m), show n - 1 - (n - (i + 1)) = i by omega, show m - 1 - (m - (j + 1)) = j by omega, hh]
        rfl
      have := (Way.here (e := revE e n m) (p := n - (i + 1)) (q := m - (j + 1))).diag he
      rwa [show n - (i + 1) + 1 = n - i by omega, show m - (j + 1) + 1 = m - j by omega] at this
    exact (s.cat (ih (by omega) (by omega))).to (by omega)
theorem Way.unrev {n m p q i j c : Nat} (w : Way (revE e n m) p q i j c) : i ≤ n → j ≤ m → Way e (n - i) (m - j) (n - p) (m - q) c := by
  induction w with
  | here => intro _ _; exact .here
  | @right i j c w ih =>
    intro h1 h2
    have s : Way e (n - (i + 1)) (m - j) (n - i) (m - j) 1 := by
      have := (Way.here (e := e) (p := n - (i + 1)) (q := m - j)).right
      rwa [show n - (i + 1) + 1 = n - i by omega] at this
    exact (s.cat (ih (by omega) h2)).to (by omega)
  | @down i j c w ih =>
    intro h1 h2
    have s : Way e (n - i) (m - (j + 1)) (n - i) (m - j) 1 := by
      have := (Way.here (e := e) (p := n - i) (q := m - (j + 1))).down
      rwa [show m - (j + 1) + 1 = m - j by omega] at this
    exact (s.cat (ih h1 (by omega))).to (by omega)
  | @diag i j c hh w ih =>
    intro h1 h2
    have s : Way e (n - (i + 1)) (m - (j + 1)) (n - i) (m - j) 0 := by
      have he : e (n - (i + 1)) (m - (j + 1)) = true := by
        unfold revE at hh
        rw [Bool.and_eq_true, Bool.and_eq_true] at hh
        rw [show n - (i + 1) = n - 1 - i by omega, show m - (j + 1) = m - 1 - j by omega]
        exact hh.2.2
      have := (Way.here (e := e) (p := n - (i + 1)) (q := m - (j + 1))).diag he
      rwa [show n - (i + 1) + 1 = n - i by omega, show m - (j + 1) + 1 = m - j by omega] at this
    exact (s.cat (ih (by omega) (by omega))).to (by omega)
theorem way_over {n m i j : Nat} (hi : i ≤ n) (hj : j ≤ m) : wayF e n m ≤ wayF e i j + wayF (revE e n m) (n - i) (m - j) := by
  have h := (way_has (e := revE e n m) (n - i) (m - j)).unrev (by omega) (by omega)
  rw [show n - (n - i) = i by omega, show m - (m - j) = j by omega, Nat.sub_zero, Nat.sub_zero] at h
  exact ((way_has i j).cat h).le
theorem way_mid {n m d : Nat} (hd : d ≤ wayF e n m) : ∃ x y, x ≤ n ∧ y ≤ m ∧ d ≤ x + y ∧ x ≤ y + d ∧ y ≤ x + d ∧ d % 2 = (x + y) % 2 ∧ wayF e x y ≤ d ∧ wayF (revE e n m) (n - x) (m - y) ≤ wayF e n m - d ∧ (n - x) ≤ (m - y) + (wayF e n m - d) ∧ (m - y) ≤ (n - x) + (wayF e n m - d) ∧ wayF e n m - d + x + y ≤ n + m := by
  obtain ⟨x, y, h1, h2⟩ := (way_has (e := e) n m).cut d hd
  have f1 := h1.facts
  have f2 := h2.facts
  have h3 := h2.rev (n := n) (m := m) (Nat.le_refl _) (Nat.le_refl _)
  rw [Nat.sub_self, Nat.sub_self] at h3
  exact ⟨x, y, f2.1, f2.2.1, by omega, by omega, by omega, by omega, h1.le, h3.le, by omega, by omega, f2.2.2.1⟩
theorem way_rev {n m : Nat} : wayF (revE e n m) n m = wayF e n m := by
  have h1 := ((way_has (e := e) n m).rev (n := n) (m := m) (Nat.le_refl _) (Nat.le_refl _))
  have h2 := ((way_has (e := revE e n m) n m).unrev (Nat.le_refl _) (Nat.le_refl _))
  simp only [Nat.sub_self, Nat.sub_zero] at h1 h2
  have := h1.le
  have := h2.le
  omega
theorem way_facts (i j : Nat) : wayF e i j ≤ i + j ∧ i ≤ j + wayF e i j ∧ j ≤ i + wayF e i j ∧ wayF e i j % 2 = (i + j) % 2 := by
  have := (way_has (e := e) i j).facts
  omega
theorem way_out {n : Nat} (he : ∀ i j, n ≤ i → e i j = false) (y : Nat) : ∀ t : Nat, wayF e (n + t) y = wayF e n y + t
  | 0 => rfl
  | t + 1 => by
    have key : ∀ y, wayF e (n + t + 1) y = wayF e (n + t) y + 1 := by
      intro y
      induction y with
      | zero => rw [way_left, way_left]
      | succ y ihy =>
        rw [way_miss (he _ _ (by omega)), ihy]
        have := (way_H (e := e) (n + t) y).1
        omega
    rw [← Nat.add_assoc, key, way_out he y t]
    omega
theorem way_out2 {m : Nat} (he : ∀ i j, m ≤ j → e i j = false) (x : Nat) : ∀ t : Nat, wayF e x (m + t) = wayF e x m + t
  | 0 => rfl
  | t + 1 => by
    have key : ∀ x, wayF e x (m + t + 1) = wayF e x (m + t) + 1 := by
      intro x
      induction x with
      | zero => rw [way_zero, way_zero]
      | succ x ihx =>
        rw [way_miss (he _ _ (by omega)), ihx]
        have := (way_V (e := e) x (m + t)).1
        omega
    rw [← Nat.add_assoc, key, way_out2 he x t]
    omega
structure Far (e : Nat → Nat → Bool) (d x y : Nat) : Prop where
  le : wayF e x y ≤ d
  lt : d < wayF e (x + 1) (y + 1)
theorem Far.past {d x y x' y' : Nat} (f : Far e d x y) (h : x < x') (hd : x' + y = x + y') : d < wayF e x' y' := by
  have := way_diags (e := e) (x + 1) (y + 1) (x' - (x + 1))
  rw [show x + 1 + (x' - (x + 1)) = x' by omega, show y + 1 + (x' - (x + 1)) = y' by omega] at this
  exact Nat.lt_of_lt_of_le f.lt this
theorem Far.max {d x y x' y' : Nat} (f : Far e d x y) (h : wayF e x' y' ≤ d) (hd : x' + y = x + y') : x' ≤ x := by
  by_cases g : x < x'
  · have := f.past g hd; omega
  · omega
theorem run_same {s t : Nat} : ∀ l : Nat, (∀ i, i < l → e (s + i) (t + i) = true) → wayF e (s + l) (t + l) = wayF e s t
  | 0, _ => rfl
  | l + 1, h => by
    show wayF e (s + l + 1) (t + l + 1) = _
    rw [way_hit (h l (by omega))]
    exact run_same l (fun i hi => h i (by omega))
theorem Far.of {d s t l : Nat} (h : wayF e s t ≤ d) (hm : ∀ i, i < l → e (s + i) (t + i) = true) (hn : e (s + l) (t + l) = false) (hl : d ≤ wayF e (s + l) (t + l + 1)) (hr : d ≤ wayF e (s + l + 1) (t + l)) : Far e d (s + l) (t + l) := by
  refine ⟨by rw [run_same l hm]; exact h, ?_⟩
  rw [way_miss hn]; omega
end Go.Sv
end
section
namespace Go.Sv
def eqL (a b : List Int) (i j : Nat) : Bool := match a[i]?, b[j]? with
  | some x, some y => x == y
  | _, _ => false
def cntL (a b : List Int) : Nat := wayF (eqL a b) a.length b.length
theorem eqL_out {a b : List Int} {i j : Nat} (h : a.length ≤ i) : eqL a b i j = false := by
  unfold eqL; rw [List.getElem?_eq_none h]
theorem eqL_out2 {a b : List Int} {i j : Nat} (h : b.length ≤ j) : eqL a b i j = false := by
  unfold eqL; rw [List.getElem?_eq_none h]; cases a[i]? <;> rfl
theorem way_congr {e e' : Nat → Nat → Bool} {n m : Nat} (h : ∀ i j, i < n → j < m → e i j = e' i j) : ∀ i j, i ≤ n → j ≤ m → wayF e i j = wayF e' i j
  | 0, j, _, _ => by rw [way_zero, way_zero]
  | i + 1, 0, _, _ => by rw [way_left, way_left]
  | i + 1, j + 1, hi, hj => by
    have h1 := way_congr h i j (by omega) (by omega)
    have h2 := way_congr h i (j + 1) (by omega) hj
    have h3 := way_congr h (i + 1) j hi (by omega)
    have hc := h i j (by omega) (by omega)
    cases hb : e i j with
    | true => rw [way_hit hb, way_hit (hc ▸ hb), h1]
    | false => rw [way_miss hb, way_miss (hc ▸ hb), h2, h3]
termination_by i j => (i, j)
theorem cnt_take {a b : List Int} {s t : Nat} (hs : s ≤ a.length) (ht : t ≤ b.length) : cntL (a.take s) (b.take t) = wayF (eqL a b) s t := by
  unfold cntL
  rw [List.length_take, List.length_take, Nat.min_eq_left hs, Nat.min_eq_left ht]
  refine way_congr (fun i j hi hj => ?_) s t (Nat.le_refl _) (Nat.le_refl _)
  unfold eqL
  rw [List.getElem?_take, if_pos hi, List.getElem?_take, if_pos hj]
theorem cnt_rev (a b : List Int) : cntL a.reverse b.reverse = cntL a b := by
  unfold cntL
  rw [List.length_reverse, List.length_reverse, ← way_rev (e := eqL a b)]
  refine way_congr (fun i j hi hj => ?_) _ _ (Nat.le_refl _) (Nat.le_refl _)
  unfold eqL revE
  rw [List.getElem?_reverse hi, List.getElem?_reverse hj, decide_eq_true hi, decide_eq_true hj]
  rfl
theorem cnt_drop {a b : List Int} {x y : Nat} (hx : x ≤ a.length) (hy : y ≤ b.length) : cntL (a.drop x) (b.drop y) = wayF (revE (eqL a b) a.length b.length) (a.length - x) (b.length - y) := by
  rw [← cnt_rev]
  unfold cntL
  rw [List.length_reverse, List.length_reverse, List.length_drop, List.length_drop]
  refine way_congr (fun i j hi hj => ?_) _ _ (Nat.le_refl _) (Nat.le_refl _)
  unfold eqL revE
  rw [List.getElem?_reverse (by rw [List.length_drop]; exact hi), List.getElem?_reverse (by rw [List.length_drop]; exact hj), decide_eq_true (by omega : i < a.length), decide_eq_true (by omega : j < b.length), List.length_drop, List.length_drop, List.getElem?_drop, List.getElem?_drop, show x + (a.length - x - 1 - i) = a.length - 1 - i by omega, show y + (b.length - y - 1 - j) = b.length - 1 - j by omega]
  rfl
theorem cnt_snoc (a b : List Int) (c : Int) : cntL (a ++ [c]) (b ++ [c]) = cntL a b := by
  unfold cntL
  rw [List.length_append, List.length_append, List.length_singleton]
  have h : eqL (a ++ [c]) (b ++ [c]) a.length b.length = true := by
    unfold eqL
    simp
  rw [way_hit h]
  refine way_congr (fun i j hi hj => ?_) _ _ (Nat.le_refl _) (Nat.le_refl _)
  unfold eqL
  rw [List.getElem?_append_left hi, List.getElem?_append_left hj]
theorem cnt_cons (a b : List Int) (c : Int) : cntL (c :: a) (c :: b) = cntL a b := by
  rw [← cnt_rev, List.reverse_cons, List.reverse_cons, cnt_snoc, cnt_rev]
theorem cnt_nil (b : List Int) : cntL [] b = b.length := way_zero _
theorem cnt_nil2 (a : List Int) : cntL a [] = a.length := way_left _
theorem cnt_zero : ∀ a b : List Int, cntL a b = 0 ↔ a = b
  | [], [] => by rw [cnt_nil]; simp
  | [], y :: b => by rw [cnt_nil]; simp
  | x :: a, [] => by rw [cnt_nil2]; simp
  | x :: a, y :: b => by
    by_cases h : x = y
    · subst h
      rw [cnt_cons, cnt_zero a b]
      simp
    · refine ⟨fun h0 => ?_, fun e => absurd (List.cons.inj e).1 h⟩
      have hl : ∀ (e : Nat → Nat → Bool) i j, wayF e i j = 0 → e 0 0 = false → i = 0 ∧ j = 0 := by
        intro e i
        induction i with
        | zero => intro j hw _; rw [way_zero] at hw; exact ⟨rfl, hw⟩
        | succ i ih =>
          intro j hw he
          cases j with
          | zero => rw [way_left] at hw; omega
          | succ j =>
            cases hb : e i j with
            | true =>
              rw [way_hit hb] at hw
              obtain ⟨rfl, rfl⟩ := ih j hw he
              rw [he] at hb; cases hb
            | false => rw [way_miss hb] at hw; omega
      have := hl _ _ _ h0 (by unfold eqL; simp [h])
      simp at this
theorem middle_law {a b : List Int} {h h' s t l x' y' : Nat} (hD : h + h' ≤ cntL a b) (h1 : wayF (eqL a b) s t ≤ h) (hm : ∀ i, i < l → eqL a b (s + i) (t + i) = true) (h2 : wayF (revE (eqL a b) a.length b.length) x' y' ≤ h')
    (hdiag : (s + l) + b.length + x' = (t + l) + a.length + y') (hover : a.length ≤ s + l + x') :
    s + l ≤ a.length ∧ t + l ≤ b.length ∧ cntL a b = h + h' ∧ cntL (a.take s) (b.take t) = h ∧ cntL (a.drop (s + l)) (b.drop (t + l)) = h' := by
  have ht := run_same (e := eqL a b) l hm
  have r := way_facts (e := revE (eqL a b) a.length b.length) x' y'
  have o1 := fun y u => way_out (e := eqL a b) (n := a.length) (fun i j hi => eqL_out hi) y u
  have o2 := fun x u => way_out2 (e := eqL a b) (m := b.length) (fun i j hj => eqL_out2 hj) x u
  have over := fun i j hi hj => way_over (e := eqL a b) (n := a.length) (m := b.length) (i := i) (j := j) hi hj
  unfold cntL at hD
  have hin : s + l ≤ a.length ∧ t + l ≤ b.length := by
    by_cases c1 : s + l ≤ a.length
    · by_cases c2 : t + l ≤ b.length
      · exact ⟨c1, c2⟩
      · exfalso
        have e1 := o2 (s + l) (t + l - b.length)
        rw [show b.length + (t + l - b.length) = t + l by omega] at e1
        have e2 := over (s + l) b.length c1 (Nat.le_refl _)
        rw [Nat.sub_self, way_left] at e2
        omega
    · by_cases c2 : t + l ≤ b.length
      · exfalso
        have e1 := o1 (t + l) (s + l - a.length)
        rw [show a.length + (s + l - a.length) = s + l by omega] at e1
        have e2 := over a.length (t + l) (Nat.le_refl _) c2
        rw [Nat.sub_self, way_zero] at e2
        omega
      · exfalso
        have e1 := o1 (t + l) (s + l - a.length)
        rw [show a.length + (s + l - a.length) = s + l by omega] at e1
        have e2 := o2 a.length (t + l - b.length)
        rw [show b.length + (t + l - b.length) = t + l by omega] at e2
        omega
  have e1 := over (s + l) (t + l) hin.1 hin.2
  have e2 := way_diags (e := revE (eqL a b) a.length b.length) (a.length - (s + l)) (b.length - (t + l)) (x' - (a.length - (s + l)))
  rw [show a.length - (s + l) + (x' - (a.length - (s + l))) = x' by omega, show b.length - (t + l) + (x' - (a.length - (s + l))) = y' by omega] at e2
  refine ⟨hin.1, hin.2, ?_, ?_, ?_⟩
  · unfold cntL; omega
  · rw [cnt_take (by omega) (by omega)]; omega
  · rw [cnt_drop hin.1 hin.2]; omega
theorem cnt_two {a b : List Int} {x y u v : Int} {a' b' a2 b2 : List Int} (ha : a = x :: a') (hb : b = y :: b') (ha2 : a = a2 ++ [u]) (hb2 : b = b2 ++ [v]) (h1 : x ≠ y) (h2 : u ≠ v) : 2 ≤ cntL a b := by
  have hla : a.length = a2.length + 1 := by rw [ha2]; simp
  have hlb : b.length = b2.length + 1 := by rw [hb2]; simp
  have e0 : eqL a b a2.length b2.length = false := by
    unfold eqL
    rw [ha2, hb2]
    simp [h2]
  have first : eqL a b 0 0 = false := by
    unfold eqL
    rw [ha, hb]
    simp [h1]
  have hl : ∀ i j, wayF (eqL a b) i j = 0 → i = 0 ∧ j = 0 := by
    intro i
    induction i with
    | zero => intro j hw; rw [way_zero] at hw; exact ⟨rfl, hw⟩
    | succ i ih =>
      intro j hw
      cases j with
      | zero => rw [way_left] at hw; omega
      | succ j =>
        cases hb : eqL a b i j with
        | true =>
          rw [way_hit hb] at hw
          obtain ⟨rfl, rfl⟩ := ih j hw
          rw [first] at hb; cases hb
        | false => rw [way_miss hb] at hw; omega
  unfold cntL
  rw [hla, hlb, way_miss e0]
  have g1 : wayF (eqL a b) a2.length (b2.length + 1) ≠ 0 := fun h => by have := (hl _ _ h).2; omega
  have g2 : wayF (eqL a b) (a2.length + 1) b2.length ≠ 0 := fun h => by have := (hl _ _ h).1; omega
  omega
def lcsF (e : Nat → Nat → Bool) : Nat → Nat → Nat
  | 0, _ => 0
  | _ + 1, 0 => 0
  | i + 1, j + 1 => if e i j = true then lcsF e i j + 1 else max (lcsF e i (j + 1)) (lcsF e (i + 1) j)
termination_by i j => (i, j)
theorem lcs_way {e : Nat → Nat → Bool} : ∀ i j, 2 * lcsF e i j + wayF e i j = i + j
  | 0, j => by rw [way_zero, lcsF]
  | i + 1, 0 => by rw [way_left, lcsF]; omega
  | i + 1, j + 1 => by
    have h1 := lcs_way (e := e) i j
    have h2 := lcs_way (e := e) i (j + 1)
    have h3 := lcs_way (e := e) (i + 1) j
    cases hb : e i j with
    | true => rw [way_hit hb, lcsF, if_pos hb]; omega
    | false => rw [way_miss hb, lcsF, if_neg (by rw [hb]; decide)]; omega
termination_by i j => (i, j)
end Go.Sv
end
section
namespace Go.Sv
theorem found_law {a b : List Int} {h h' : Nat} (hD : cntL a b = h + h') : ∃ x y : Nat, x ≤ a.length ∧ y ≤ b.length ∧ h ≤ x + y ∧ x ≤ y + h ∧ y ≤ x + h ∧ h % 2 = (x + y) % 2 ∧ (a.length - x) ≤ (b.length - y) + h' ∧ (b.length - y) ≤ (a.length - x) + h' ∧ h' + x + y ≤ a.length + b.length ∧
    ∀ X Y X' Y', Far (eqL a b) h X Y → X + y = x + Y → Far (revE (eqL a b) a.length b.length) h' X' Y' → X' + (b.length - y) = (a.length - x) + Y' → a.length ≤ X + X' := by
  unfold cntL at hD
  obtain ⟨x, y, h1, h2, h3, h4, h5, h6, h7, h8, h9, h10, h11⟩ := way_mid (e := eqL a b) (n := a.length) (m := b.length) (d := h) (by omega)
  refine ⟨x, y, h1, h2, h3, h4, h5, h6, by omega, by omega, by omega, fun X Y X' Y' f hd f' hd' => ?_⟩
  have g1 := f.max h7 (by omega)
  have g2 := f'.max (x' := a.length - x) (y' := b.length - y) (by omega) (by omega)
  omega
theorem far_next {e : Nat → Nat → Bool} {d s t l : Nat} (hs : wayF e s t ≤ d + 1) (hm : ∀ i, i < l → e (s + i) (t + i) = true) (hn : e (s + l) (t + l) = false)
    (hL : (∃ x y, Far e d x y ∧ x + (t + 1) = s + y ∧ x < s) ∨ s + d < t + 1) (hR : (∃ x y, Far e d x y ∧ x + t = s + 1 + y ∧ x ≤ s) ∨ t + d < s + 1) : Far e (d + 1) (s + l) (t + l) := by
  refine Far.of hs hm hn ?_ ?_
  · rcases hL with ⟨x, y, f, h1, h2⟩ | h
    · exact f.past (x' := s + l) (y' := t + l + 1) (by omega) (by omega)
    · have := way_facts (e := e) (s + l) (t + l + 1)
      omega
  · rcases hR with ⟨x, y, f, h1, h2⟩ | h
    · exact f.past (x' := s + l + 1) (y' := t + l) (by omega) (by omega)
    · have := way_facts (e := e) (s + l + 1) (t + l)
      omega
theorem far_zero {e : Nat → Nat → Bool} {l : Nat} (hm : ∀ i, i < l → e i i = true) (hn : e l l = false) : Far e 0 l l := by
  have := Far.of (e := e) (d := 0) (s := 0) (t := 0) (l := l) (by rw [way_zero]; exact Nat.le_refl _) (fun i hi => by rw [Nat.zero_add]; exact hm i hi) (by rw [Nat.zero_add]; exact hn) (Nat.zero_le _) (Nat.zero_le _)
  simpa using this
theorem way_from_left {e : Nat → Nat → Bool} {d x y : Nat} (f : Far e d x y) : wayF e (x + 1) y ≤ d + 1 := by
  have := (way_V (e := e) x y).1
  have := f.le
  omega
theorem way_from_up {e : Nat → Nat → Bool} {d x y : Nat} (f : Far e d x y) : wayF e x (y + 1) ≤ d + 1 := by
  have := (way_H (e := e) x y).1
  have := f.le
  omega
end Go.Sv
end
section
namespace Go.Sv
structure Bx where
  a : List Int
  b : List Int
  x : Nat
  y : Nat
def trueN (l : List Bool) : Nat := l.count true
theorem trueN_set {l : List Bool} {j : Nat} (h : l[j]? = some false) : trueN (l.set j true) = trueN l + 1 := by
  induction l generalizing j with
  | nil => simp at h
  | cons c l ih =>
    cases j with
    | zero =>
      simp at h
      subst h
      simp [trueN]
    | succ j =>
      have := ih (j := j) (by simpa using h)
      unfold trueN at this ⊢
      rw [List.set_cons_succ, List.count_cons, List.count_cons, this]
      omega
def setN : List Bool → Nat → Nat → List Bool
  | l, _, 0 => l
  | l, x, k + 1 => (setN l x k).set (x + k) true
theorem setN_len (l : List Bool) (x : Nat) : ∀ k, (setN l x k).length = l.length
  | 0 => rfl
  | k + 1 => by rw [setN, List.length_set, setN_len l x k]
theorem setN_get {l : List Bool} {x i : Nat} : ∀ k, (i < x ∨ x + k ≤ i) → (setN l x k)[i]? = l[i]?
  | 0, _ => rfl
  | k + 1, h => by
    rw [setN, List.getElem?_set_ne (by omega)]
    exact setN_get k (by omega)
theorem setN_true {l : List Bool} {x : Nat} : ∀ k, (∀ i, x ≤ i → i < x + k → l[i]? = some false) → trueN (setN l x k) = trueN l + k
  | 0, _ => rfl
  | k + 1, h => by
    have ih := setN_true (l := l) (x := x) k (fun i h1 h2 => h i h1 (by omega))
    rw [setN, trueN_set (by rw [setN_get k (by omega)]; exact h (x + k) (by omega) (by omega)), ih]
    omega
structure Todo (a b : List Int) (G C : List Bool) (st : List Bx) : Prop where
  g : G.length = a.length
  c : C.length = b.length
  sum : trueN G + trueN C + (st.map (fun p => cntL p.a p.b)).sum = cntL a b
  inG : ∀ p ∈ st.head?, p.x + p.a.length ≤ a.length ∧ ∀ i, i < p.x + p.a.length → G[i]? = some false
  inC : ∀ p ∈ st.head?, p.y + p.b.length ≤ b.length ∧ ∀ i, i < p.y + p.b.length → C[i]? = some false
  ord : st.Pairwise (fun p q => q.x + q.a.length ≤ p.x ∧ q.y + q.b.length ≤ p.y)
theorem todo_first (a b : List Int) : Todo a b (List.replicate a.length false) (List.replicate b.length false) [⟨a, b, 0, 0⟩] := by
  refine ⟨by simp, by simp, ?_, ?_, ?_, by simp⟩
  · have h : ∀ n, trueN (List.replicate n false) = 0 := fun n => by
      unfold trueN
      rw [List.count_replicate]
      rfl
    rw [h, h]; simp
  · intro p hp
    simp only [List.head?_cons, Option.mem_some_iff] at hp
    subst hp
    refine ⟨by simp, fun i hi => ?_⟩
    rw [List.getElem?_replicate, if_pos (by simpa using hi)]
  · intro p hp
    simp only [List.head?_cons, Option.mem_some_iff] at hp
    subst hp
    refine ⟨by simp, fun i hi => ?_⟩
    rw [List.getElem?_replicate, if_pos (by simpa using hi)]
theorem head_mem {st : List Bx} {q : Bx} (h : q ∈ st.head?) : q ∈ st := List.mem_of_mem_head? h
theorem Todo.mark {a b : List Int} {G C : List Bool} {st : List Bx} {p : Bx} (t : Todo a b G C (p :: st)) (he : p.a = [] ∨ p.b = []) : Todo a b (setN G p.x p.a.length) (setN C p.y p.b.length) st := by
  obtain ⟨g1, g2⟩ := t.inG p rfl
  obtain ⟨c1, c2⟩ := t.inC p rfl
  have ho := List.pairwise_cons.1 t.ord
  have hs := t.sum
  simp only [List.map_cons, List.sum_cons] at hs
  have hc : cntL p.a p.b = p.a.length + p.b.length := by
    rcases he with e | e
    · rw [e, cnt_nil]; simp
    · rw [e, cnt_nil2]; simp
  refine ⟨by rw [setN_len]; exact t.g, by rw [setN_len]; exact t.c, ?_, ?_, ?_, ho.2⟩
  · rw [setN_true _ (fun i h1 h2 => g2 i h2), setN_true _ (fun i h1 h2 => c2 i h2)]
    omega
  · intro q hq
    obtain ⟨o1, o2⟩ := ho.1 q (head_mem hq)
    exact ⟨by omega, fun i hi => by rw [setN_get _ (by omega)]; exact g2 i (by omega)⟩
  · intro q hq
    obtain ⟨o1, o2⟩ := ho.1 q (head_mem hq)
    exact ⟨by omega, fun i hi => by rw [setN_get _ (by omega)]; exact c2 i (by omega)⟩
theorem Todo.trim {a b : List Int} {G C : List Bool} {st : List Bx} {p p' : Bx} {i : Nat} (t : Todo a b G C (p :: st)) (hc : cntL p'.a p'.b = cntL p.a p.b) (hx : p'.x = p.x + i) (hy : p'.y = p.y + i) (hla : i + p'.a.length ≤ p.a.length) (hlb : i + p'.b.length ≤ p.b.length) : Todo a b G C (p' :: st) := by
  obtain ⟨g1, g2⟩ := t.inG p rfl
  obtain ⟨c1, c2⟩ := t.inC p rfl
  have ho := List.pairwise_cons.1 t.ord
  have hs := t.sum
  simp only [List.map_cons, List.sum_cons] at hs
  refine ⟨t.g, t.c, by simp only [List.map_cons, List.sum_cons]; omega, ?_, ?_, List.pairwise_cons.2 ⟨fun q hq => ?_, ho.2⟩⟩
  · intro q hq
    simp only [List.head?_cons, Option.mem_some_iff] at hq
    subst hq
    exact ⟨by omega, fun j hj => g2 j (by omega)⟩
  · intro q hq
    simp only [List.head?_cons, Option.mem_some_iff] at hq
    subst hq
    exact ⟨by omega, fun j hj => c2 j (by omega)⟩
  · have := ho.1 q hq
    omega
theorem Todo.split {a b : List Int} {G C : List Bool} {st : List Bx} {p : Bx} {s u x v : Nat} (t : Todo a b G C (p :: st)) (h1 : s ≤ x) (h2 : u ≤ v) (h3 : x ≤ p.a.length) (h4 : v ≤ p.b.length)
    (hc : cntL p.a p.b = cntL (p.a.take s) (p.b.take u) + cntL (p.a.drop x) (p.b.drop v)) : Todo a b G C (⟨p.a.drop x, p.b.drop v, p.x + x, p.y + v⟩ :: ⟨p.a.take s, p.b.take u, p.x, p.y⟩ :: st) := by
  obtain ⟨g1, g2⟩ := t.inG p rfl
  obtain ⟨c1, c2⟩ := t.inC p rfl
  have ho := List.pairwise_cons.1 t.ord
  have hs := t.sum
  simp only [List.map_cons, List.sum_cons] at hs
  have l1 : (p.a.take s).length ≤ s := by rw [List.length_take]; omega
  have l2 : (p.b.take u).length ≤ u := by rw [List.length_take]; omega
  refine ⟨t.g, t.c, by simp only [List.map_cons, List.sum_cons]; omega, ?_, ?_, List.pairwise_cons.2 ⟨fun q hq => ?_, List.pairwise_cons.2 ⟨fun q hq => ?_, ho.2⟩⟩⟩
  · intro q hq
    simp only [List.head?_cons, Option.mem_some_iff] at hq
    subst hq
    simp only [List.length_drop]
    exact ⟨by omega, fun j hj => g2 j (by omega)⟩
  · intro q hq
    simp only [List.head?_cons, Option.mem_some_iff] at hq
    subst hq
    simp only [List.length_drop]
    exact ⟨by omega, fun j hj => c2 j (by omega)⟩
  · rcases List.mem_cons.1 hq with rfl | hq
    · simp only; omega
    · have := ho.1 q hq
      simp only; omega
  · have := ho.1 q hq
    simp only; omega
def fuelB (p : Bx) : Nat := if p.a.length + p.b.length = 0 then 1 else 2 * (p.a.length + p.b.length) - 1
def fuelS (st : List Bx) : Nat := (st.map fuelB).sum
end Go.Sv
end
section
namespace Go.Sv
def rngK (n m h : Nat) (k : Int) : Prop := -((h : Int) - 2 * max 0 ((h : Int) - m)) ≤ k ∧ k ≤ (h : Int) - 2 * max 0 ((h : Int) - n) ∧ (k - h) % 2 = 0
def sizeK (n m : Nat) : Nat := 2 * min n m + 2
def wix (n m : Nat) (k : Int) : Nat := (k % (sizeK n m : Int)).toNat
theorem wix_lt (n m : Nat) (k : Int) : wix n m k < sizeK n m := by
  have hp : 0 < (sizeK n m : Int) := by unfold sizeK; omega
  have h1 := Int.emod_nonneg k (Int.ne_of_gt hp)
  have h2 := Int.emod_lt_of_pos k hp
  unfold wix; omega
theorem wix_eq {n m : Nat} {k k' : Int} (h : wix n m k = wix n m k') : (k - k') % (sizeK n m : Int) = 0 := by
  have hp : 0 < (sizeK n m : Int) := by unfold sizeK; omega
  have h1 := Int.emod_nonneg k (Int.ne_of_gt hp)
  have h2 := Int.emod_nonneg k' (Int.ne_of_gt hp)
  unfold wix at h
  have : k % (sizeK n m : Int) = k' % (sizeK n m : Int) := by omega
  exact Int.emod_eq_emod_iff_emod_sub_eq_zero.1 this
theorem wix_ne {n m : Nat} {k k' : Int} (h1 : k ≠ k') (h2 : k - k' < sizeK n m) (h3 : k' - k < sizeK n m) : wix n m k ≠ wix n m k' := by
  intro e
  have := wix_eq e
  obtain ⟨q, hq⟩ := Int.dvd_of_emod_eq_zero this
  have hp : 0 < (sizeK n m : Int) := by unfold sizeK; omega
  have hq0 : q ≠ 0 := fun e => by rw [e, Int.mul_zero] at hq; omega
  by_cases hq1 : 1 ≤ q
  · have := Int.mul_le_mul_of_nonneg_left hq1 (Int.le_of_lt hp)
    rw [Int.mul_one] at this; omega
  · have : (sizeK n m : Int) * q ≤ (sizeK n m : Int) * (-1) := Int.mul_le_mul_of_nonneg_left (by omega) (Int.le_of_lt hp)
    rw [Int.mul_neg, Int.mul_one] at this; omega
theorem wix_odd {n m : Nat} {k k' : Int} (h : (k - k') % 2 = 1) : wix n m k ≠ wix n m k' := by
  intro e
  have := wix_eq e
  obtain ⟨q, hq⟩ := Int.dvd_of_emod_eq_zero this
  have h2 : (sizeK n m : Int) = 2 * ((min n m : Nat) + 1 : Int) := by unfold sizeK; omega
  rw [h2, Int.mul_assoc] at hq
  omega
theorem rng_ne {n m h : Nat} {k k' : Int} (h1 : rngK n m h k) (h2 : rngK n m h k') (hne : k ≠ k') : wix n m k ≠ wix n m k' := by
  unfold rngK at h1 h2
  refine wix_ne hne ?_ ?_ <;> unfold sizeK <;> omega
def RowK (e : Nat → Nat → Bool) (n m h : Nat) (P : Int → Prop) (c : List Int) : Prop := ∀ k, rngK n m h k → P k → ∃ x y : Nat, (x : Int) = y + k ∧ c[wix n m k]? = some (x : Int) ∧ Far e h x y
abbrev allK : Int → Prop := fun _ => True
theorem RowK.put {e : Nat → Nat → Bool} {n m h : Nat} {c : List Int} {k : Int} {x y : Nat} (r : RowK e n m h (fun k' => k' < k) c) (hl : c.length = sizeK n m) (hk : rngK n m h k) (hx : (x : Int) = y + k) (f : Far e h x y) : RowK e n m h (fun k' => k' < k + 2) (c.set (wix n m k) (x : Int)) := by
  intro k' h1 h2
  by_cases g : k' = k
  · subst g
    exact ⟨x, y, hx, by rw [List.getElem?_set_self (by rw [hl]; exact wix_lt n m _)], f⟩
  · have hlt : k' < k := by unfold rngK at h1 hk; omega
    obtain ⟨x', y', a, b, c'⟩ := r k' h1 hlt
    exact ⟨x', y', a, by rw [List.getElem?_set_ne (rng_ne hk h1 (fun e => g e.symm))]; exact b, c'⟩
theorem RowK.keep {e : Nat → Nat → Bool} {n m h : Nat} {P : Int → Prop} {c : List Int} {k v : Int} (r : RowK e n m h P c) (hk : (k - h) % 2 = 1) : RowK e n m h P (c.set (wix n m k) v) := by
  intro k' h1 h2
  obtain ⟨x', y', a, b, c'⟩ := r k' h1 h2
  have hne : wix n m k ≠ wix n m k' := wix_odd (by unfold rngK at h1; omega)
  exact ⟨x', y', a, by rw [List.getElem?_set_ne hne]; exact b, c'⟩
theorem RowK.all {e : Nat → Nat → Bool} {n m h : Nat} {c : List Int} {k : Int} (r : RowK e n m h (fun k' => k' < k) c) (hk : (h : Int) - 2 * max 0 ((h : Int) - n) < k) : RowK e n m h allK c := by
  intro k' h1 _
  exact r k' h1 (by unfold rngK at h1; omega)
theorem RowK.none {e : Nat → Nat → Bool} {n m h : Nat} {c : List Int} : RowK e n m h (fun k' => k' < -((h : Int) - 2 * max 0 ((h : Int) - m))) c := by
  intro k' h1 h2
  unfold rngK at h1
  omega
theorem start_up {e : Nat → Nat → Bool} {n m h : Nat} {c : List Int} {k : Int} (r : RowK e n m h allK c) (hk : rngK n m (h + 1) k) (hne : k ≠ (h : Int) + 1) (hor : k = -((h : Int) + 1) ∨ ∀ v w, c[wix n m (k - 1)]? = some v → c[wix n m (k + 1)]? = some w → v < w) :
    ∃ s t : Nat, c[wix n m (k + 1)]? = some (s : Int) ∧ (s : Int) = t + k ∧ 1 ≤ t ∧ wayF e s t ≤ h + 1 ∧ ((∃ x y, Far e h x y ∧ x + (t + 1) = s + y ∧ x < s) ∨ s + h < t + 1) ∧ ((∃ x y, Far e h x y ∧ x + t = s + 1 + y ∧ x ≤ s) ∨ t + h < s + 1) := by
  obtain ⟨x, y, a1, a2, a3⟩ := r (k + 1) (by unfold rngK at hk ⊢; omega) trivial
  refine ⟨x, y + 1, a2, by omega, by omega, way_from_up a3, ?_, .inl ⟨x, y, a3, by omega, Nat.le_refl _⟩⟩
  by_cases g : k = -((h : Int) + 1)
  · exact .inr (by omega)
  · obtain ⟨x', y', b1, b2, b3⟩ := r (k - 1) (by unfold rngK at hk ⊢; omega) trivial
    have := (hor.resolve_left g) _ _ b2 a2
    exact .inl ⟨x', y', b3, by omega, by omega⟩
theorem start_left {e : Nat → Nat → Bool} {n m h : Nat} {c : List Int} {k : Int} (r : RowK e n m h allK c) (hk : rngK n m (h + 1) k) (hne : k ≠ -((h : Int) + 1)) (hor : k = (h : Int) + 1 ∨ ∀ v w, c[wix n m (k - 1)]? = some v → c[wix n m (k + 1)]? = some w → w ≤ v) :
    ∃ s t : Nat, c[wix n m (k - 1)]? = some ((s : Int) - 1) ∧ (s : Int) = t + k ∧ 1 ≤ s ∧ wayF e s t ≤ h + 1 ∧ ((∃ x y, Far e h x y ∧ x + (t + 1) = s + y ∧ x < s) ∨ s + h < t + 1) ∧ ((∃ x y, Far e h x y ∧ x + t = s + 1 + y ∧ x ≤ s) ∨ t + h < s + 1) := by
  obtain ⟨x, y, a1, a2, a3⟩ := r (k - 1) (by unfold rngK at hk ⊢; omega) trivial
  refine ⟨x + 1, y, by rw [a2]; congr 1; omega, by omega, by omega, way_from_left a3, .inl ⟨x, y, a3, by omega, by omega⟩, ?_⟩
  by_cases g : k = (h : Int) + 1
  · exact .inr (by omega)
  · obtain ⟨x', y', b1, b2, b3⟩ := r (k + 1) (by unfold rngK at hk ⊢; omega) trivial
    have := (hor.resolve_left g) _ _ a2 b2
    exact .inl ⟨x', y', b3, by omega, by omega⟩
end Go.Sv
end
section
namespace Go.Sv
theorem eqL_rev (a b : List Int) : eqL a.reverse b.reverse = revE (eqL a b) a.length b.length := by
  funext i j
  by_cases hi : i < a.length
  · by_cases hj : j < b.length
    · unfold eqL revE
      rw [List.getElem?_reverse hi, List.getElem?_reverse hj, decide_eq_true hi, decide_eq_true hj]
      rfl
    · rw [eqL_out2 (by simpa using hj)]
      unfold revE
      rw [decide_eq_false hj]
      simp
  · rw [eqL_out (by simpa using hi)]
    unfold revE
    rw [decide_eq_false hi]
    rfl
theorem eqL_rev2 (a b : List Int) : revE (eqL a.reverse b.reverse) a.length b.length = eqL a b := by
  have := eqL_rev a.reverse b.reverse
  rw [List.reverse_reverse, List.reverse_reverse, List.length_reverse, List.length_reverse] at this
  exact this.symm
abbrev eF (a b : List Int) : Nat → Nat → Bool := eqL a b
abbrev eB (a b : List Int) : Nat → Nat → Bool := eqL a.reverse b.reverse
theorem rows_meet {a b : List Int} {h h' : Nat} {c d : List Int} (hD : cntL a b = h + h') (rc : RowK (eF a b) a.length b.length h allK c) (rd : RowK (eB a b) a.length b.length h' allK d) :
    ∃ k, rngK a.length b.length h k ∧ rngK a.length b.length h' ((a.length : Int) - b.length - k) ∧ ∀ X X' : Int, c[wix a.length b.length k]? = some X → d[wix a.length b.length ((a.length : Int) - b.length - k)]? = some X' → (a.length : Int) ≤ X + X' := by
  obtain ⟨x, y, h1, h2, h3, h4, h5, h6, h7, h8, h9, hf⟩ := found_law hD
  have par := (way_facts (e := eqL a b) a.length b.length).2.2.2
  unfold cntL at hD
  have k1 : rngK a.length b.length h ((x : Int) - y) := by unfold rngK; omega
  have k2 : rngK a.length b.length h' ((a.length : Int) - b.length - ((x : Int) - y)) := by unfold rngK; omega
  refine ⟨(x : Int) - y, k1, k2, fun X X' hX hX' => ?_⟩
  obtain ⟨X1, Y1, a1, a2, a3⟩ := rc _ k1 trivial
  obtain ⟨X2, Y2, b1, b2, b3⟩ := rd _ k2 trivial
  rw [a2] at hX
  rw [b2] at hX'
  cases hX
  cases hX'
  rw [eB, eqL_rev] at b3
  have := hf X1 Y1 X2 Y2 a3 (by omega) b3 (by omega)
  omega
structure SnakeOut (a b : List Int) (s t x y : Nat) : Prop where
  sx : s ≤ x
  ty : t ≤ y
  xa : x ≤ a.length
  yb : y ≤ b.length
  sum : cntL a b = cntL (a.take s) (b.take t) + cntL (a.drop x) (b.drop y)
  one : 1 ≤ cntL (a.take s) (b.take t)
  two : 1 ≤ cntL (a.drop x) (b.drop y)
theorem snake_ahead {a b : List Int} {h h' s t l x' y' : Nat} (hD : h + h' ≤ cntL a b) (p1 : 1 ≤ h) (p2 : 1 ≤ h') (h1 : wayF (eF a b) s t ≤ h) (hm : ∀ i, i < l → eF a b (s + i) (t + i) = true) (h2 : Far (eB a b) h' x' y') {k : Int} (hk : ((s + l : Nat) : Int) = (t + l : Nat) + k) (hk' : (x' : Int) = y' + ((a.length : Int) - b.length - k))
    (hover : (a.length : Int) ≤ ((s + l : Nat) : Int) + x') : SnakeOut a b s t (s + l) (t + l) := by
  have h2' := h2.le
  rw [eB, eqL_rev] at h2'
  obtain ⟨m1, m2, m3, m4, m5⟩ := middle_law hD h1 hm h2' (by omega) (by omega)
  exact ⟨by omega, by omega, m1, m2, by omega, by omega, by omega⟩
theorem rev_take (a : List Int) (s : Nat) (hs : s ≤ a.length) : a.reverse.take s = (a.drop (a.length - s)).reverse := by
  rw [List.reverse_drop, show a.length - (a.length - s) = s by omega]
theorem rev_drop (a : List Int) (s : Nat) (hs : s ≤ a.length) : a.reverse.drop s = (a.take (a.length - s)).reverse := by
  rw [List.reverse_take, show a.length - (a.length - s) = s by omega]
theorem snake_back {a b : List Int} {h h' s t l x' y' : Nat} (hD : h + h' ≤ cntL a b) (p1 : 1 ≤ h) (p2 : 1 ≤ h') (h1 : wayF (eB a b) s t ≤ h) (hm : ∀ i, i < l → eB a b (s + i) (t + i) = true) (h2 : Far (eF a b) h' x' y') {k : Int} (hk : ((s + l : Nat) : Int) = (t + l : Nat) + k) (hk' : (x' : Int) = y' + ((a.length : Int) - b.length - k))
    (hover : (a.length : Int) ≤ ((s + l : Nat) : Int) + x') : s + l ≤ a.length ∧ t + l ≤ b.length ∧ SnakeOut a b (a.length - (s + l)) (b.length - (t + l)) (a.length - s) (b.length - t) := by
  have h2' := h2.le
  rw [eF, ← eqL_rev2] at h2'
  have hD' : h + h' ≤ cntL a.reverse b.reverse := by rw [cnt_rev]; exact hD
  obtain ⟨m1, m2, m3, m4, m5⟩ := middle_law (a := a.reverse) (b := b.reverse) hD' h1 hm (x' := x') (y' := y') (by rw [List.length_reverse, List.length_reverse]; exact h2') (by rw [List.length_reverse, List.length_reverse]; omega) (by rw [List.length_reverse]; omega)
  rw [List.length_reverse] at m1 m2
  rw [cnt_rev] at m3
  rw [rev_take a s (by omega), rev_take b t (by omega), cnt_rev] at m4
  rw [rev_drop a (s + l) m1, rev_drop b (t + l) m2, cnt_rev] at m5
  exact ⟨m1, m2, by omega, by omega, by omega, by omega, by omega, by omega, by omega⟩
end Go.Sv
end
