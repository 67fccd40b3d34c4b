/- Shortest scripts between two rows of numbers, as plain numbers: what is left out at the ends, and the middle of a shortest way. -/
import Derived.Test.YtimmjplgogpglaaDoorMyA
set_option linter.unusedVariables false
set_option linter.unusedSimpArgs false
namespace Go.Sv
def eqL (a b : List Int) (i j : Nat) : Bool := match a[i]?, b[j]? with
  | some x, some y => x == y
  | _, _ => false
def cntL (a b : List Int) : Nat := wayF (eqL a b) a.length b.length
theorem eqL_out {a b : List Int} {i j : Nat} (h : a.length ≤ i) : eqL a b i j = false := by
  unfold eqL; rw [List.getElem?_eq_none h]
theorem eqL_out2 {a b : List Int} {i j : Nat} (h : b.length ≤ j) : eqL a b i j = false := by
  unfold eqL; rw [List.getElem?_eq_none h]; cases a[i]? <;> rfl
theorem way_congr {e e' : Nat → Nat → Bool} {n m : Nat} (h : ∀ i j, i < n → j < m → e i j = e' i j) : ∀ i j, i ≤ n → j ≤ m → wayF e i j = wayF e' i j
  | 0, j, _, _ => by rw [way_zero, way_zero]
  | i + 1, 0, _, _ => by rw [way_left, way_left]
  | i + 1, j + 1, hi, hj => by
    have h1 := way_congr h i j (by omega) (by omega)
    have h2 := way_congr h i (j + 1) (by omega) hj
    have h3 := way_congr h (i + 1) j hi (by omega)
    have hc := h i j (by omega) (by omega)
    cases hb : e i j with
    | true => rw [way_hit hb, way_hit (hc ▸ hb), h1]
    | false => rw [way_miss hb, way_miss (hc ▸ hb), h2, h3]
termination_by i j => (i, j)
theorem cnt_take {a b : List Int} {s t : Nat} (hs : s ≤ a.length) (ht : t ≤ b.length) : cntL (a.take s) (b.take t) = wayF (eqL a b) s t := by
  unfold cntL
  rw [List.length_take, List.length_take, Nat.min_eq_left hs, Nat.min_eq_left ht]
  refine way_congr (fun i j hi hj => ?_) s t (Nat.le_refl _) (Nat.le_refl _)
  unfold eqL
  rw [List.getElem?_take, if_pos hi, List.getElem?_take, if_pos hj]
theorem cnt_rev (a b : List Int) : cntL a.reverse b.reverse = cntL a b := by
  unfold cntL
  rw [List.length_reverse, List.length_reverse, ← way_rev (e := eqL a b)]
  refine way_congr (fun i j hi hj => ?_) _ _ (Nat.le_refl _) (Nat.le_refl _)
  unfold eqL revE
  rw [List.getElem?_reverse hi, List.getElem?_reverse hj, decide_eq_true hi, decide_eq_true hj]
  rfl
theorem cnt_drop {a b : List Int} {x y : Nat} (hx : x ≤ a.length) (hy : y ≤ b.length) : cntL (a.drop x) (b.drop y) = wayF (revE (eqL a b) a.length b.length) (a.length - x) (b.length - y) := by
  rw [← cnt_rev]
  unfold cntL
  rw [List.length_reverse, List.length_reverse, List.length_drop, List.length_drop]
  refine way_congr (fun i j hi hj => ?_) _ _ (Nat.le_refl _) (Nat.le_refl _)
  unfold eqL revE
  rw [List.getElem?_reverse (by rw [List.length_drop]; exact hi), List.getElem?_reverse (by rw [List.length_drop]; exact hj), decide_eq_true (by omega : i < a.length), decide_eq_true (by omega : j < b.length), List.length_drop, List.length_drop, List.getElem?_drop, List.getElem?_drop, show x + (a.length - x - 1 - i) = a.length - 1 - i by omega, show y + (b.length - y - 1 - j) = b.length - 1 - j by omega]
  rfl
theorem cnt_snoc (a b : List Int) (c : Int) : cntL (a ++ [c]) (b ++ [c]) = cntL a b := by
  unfold cntL
  rw [List.length_append, List.length_append, List.length_singleton]
  have h : eqL (a ++ [c]) (b ++ [c]) a.length b.length = true := by
    unfold eqL
    simp
  rw [way_hit h]
  refine way_congr (fun i j hi hj => ?_) _ _ (Nat.le_refl _) (Nat.le_refl _)
  unfold eqL
  rw [List.getElem?_append_left hi, List.getElem?_append_left hj]
theorem cnt_cons (a b : List Int) (c : Int) : cntL (c :: a) (c :: b) = cntL a b := by
  rw [← cnt_rev, List.reverse_cons, List.reverse_cons, cnt_snoc, cnt_rev]
theorem cnt_nil (b : List Int) : cntL [] b = b.length := way_zero _
theorem cnt_nil2 (a : List Int) : cntL a [] = a.length := way_left _
theorem cnt_swap (a b : List Int) : cntL b a = cntL a b := by
  have key : ∀ i j, wayF (eqL b a) j i = wayF (eqL a b) i j := by
    intro i
    induction i with
    | zero => intro j; rw [way_left, way_zero]
    | succ i ihi =>
      intro j
      induction j with
      | zero => rw [way_zero, way_left]
      | succ j ihj =>
        have hc : eqL b a j i = eqL a b i j := by
          unfold eqL
          cases a[i]? <;> cases b[j]? <;> simp [BEq.comm]
        cases hb : eqL a b i j with
        | true => rw [way_hit hb, way_hit (hc ▸ hb), ihi]
        | false => rw [way_miss hb, way_miss (hc.trans hb), ihi, ihj, Nat.min_comm]
  exact key _ _
theorem cnt_zero : ∀ a b : List Int, cntL a b = 0 ↔ a = b
  | [], [] => by rw [cnt_nil]; simp
  | [], y :: b => by rw [cnt_nil]; simp
  | x :: a, [] => by rw [cnt_nil2]; simp
  | x :: a, y :: b => by
    by_cases h : x = y
    · subst h
      rw [cnt_cons, cnt_zero a b]
      simp
    · refine ⟨fun h0 => ?_, fun e => absurd (List.cons.inj e).1 h⟩
      have hl : ∀ (e : Nat → Nat → Bool) i j, wayF e i j = 0 → e 0 0 = false → i = 0 ∧ j = 0 := by
        intro e i
        induction i with
        | zero => intro j hw _; rw [way_zero] at hw; exact ⟨rfl, hw⟩
        | succ i ih =>
          intro j hw he
          cases j with
          | zero => rw [way_left] at hw; omega
          | succ j =>
            cases hb : e i j with
            | true =>
              rw [way_hit hb] at hw
              obtain ⟨rfl, rfl⟩ := ih j hw he
              rw [he] at hb; cases hb
            | false => rw [way_miss hb] at hw; omega
      have := hl _ _ _ h0 (by unfold eqL; simp [h])
      simp at this
theorem middle_law {a b : List Int} {h h' s t l x' y' : Nat} (hD : h + h' ≤ cntL a b) (h1 : wayF (eqL a b) s t ≤ h) (hm : ∀ i, i < l → eqL a b (s + i) (t + i) = true) (h2 : wayF (revE (eqL a b) a.length b.length) x' y' ≤ h')
    (hdiag : (s + l) + b.length + x' = (t + l) + a.length + y') (hover : a.length ≤ s + l + x') :
    s + l ≤ a.length ∧ t + l ≤ b.length ∧ cntL a b = h + h' ∧ cntL (a.take s) (b.take t) = h ∧ cntL (a.drop (s + l)) (b.drop (t + l)) = h' := by
  have ht := run_same (e := eqL a b) l hm
  have r := way_facts (e := revE (eqL a b) a.length b.length) x' y'
  have o1 := fun y u => way_out (e := eqL a b) (n := a.length) (fun i j hi => eqL_out hi) y u
  have o2 := fun x u => way_out2 (e := eqL a b) (m := b.length) (fun i j hj => eqL_out2 hj) x u
  have over := fun i j hi hj => way_over (e := eqL a b) (n := a.length) (m := b.length) (i := i) (j := j) hi hj
  unfold cntL at hD
  have hin : s + l ≤ a.length ∧ t + l ≤ b.length := by
    by_cases c1 : s + l ≤ a.length
    · by_cases c2 : t + l ≤ b.length
      · exact ⟨c1, c2⟩
      · exfalso
        have e1 := o2 (s + l) (t + l - b.length)
        rw [show b.length + (t + l - b.length) = t + l by omega] at e1
        have e2 := over (s + l) b.length c1 (Nat.le_refl _)
        rw [Nat.sub_self, way_left] at e2
        omega
    · by_cases c2 : t + l ≤ b.length
      · exfalso
        have e1 := o1 (t + l) (s + l - a.length)
        rw [show a.length + (s + l - a.length) = s + l by omega] at e1
        have e2 := over a.length (t + l) (Nat.le_refl _) c2
        rw [Nat.sub_self, way_zero] at e2
        omega
      · exfalso
        have e1 := o1 (t + l) (s + l - a.length)
        rw [show a.length + (s + l - a.length) = s + l by omega] at e1
        have e2 := o2 a.length (t + l - b.length)
        rw [show b.length + (t + l - b.length) = t + l by omega] at e2
        omega
  have e1 := over (s + l) (t + l) hin.1 hin.2
  have e2 := way_diags (e := revE (eqL a b) a.length b.length) (a.length - (s + l)) (b.length - (t + l)) (x' - (a.length - (s + l)))
  rw [show a.length - (s + l) + (x' - (a.length - (s + l))) = x' by omega, show b.length - (t + l) + (x' - (a.length - (s + l))) = y' by omega] at e2
  refine ⟨hin.1, hin.2, ?_, ?_, ?_⟩
  · unfold cntL; omega
  · rw [cnt_take (by omega) (by omega)]; omega
  · rw [cnt_drop hin.1 hin.2]; omega
theorem cnt_two {a b : List Int} {x y u v : Int} {a' b' a2 b2 : List Int} (ha : a = x :: a') (hb : b = y :: b') (ha2 : a = a2 ++ [u]) (hb2 : b = b2 ++ [v]) (h1 : x ≠ y) (h2 : u ≠ v) : 2 ≤ cntL a b := by
  have hla : a.length = a2.length + 1 := by rw [ha2]; simp
  have hlb : b.length = b2.length + 1 := by rw [hb2]; simp
  have e0 : eqL a b a2.length b2.length = false := by
    unfold eqL
    rw [ha2, hb2]
    simp [h2]
  have first : eqL a b 0 0 = false := by
    unfold eqL
    rw [ha, hb]
    simp [h1]
  have hl : ∀ i j, wayF (eqL a b) i j = 0 → i = 0 ∧ j = 0 := by
    intro i
    induction i with
    | zero => intro j hw; rw [way_zero] at hw; exact ⟨rfl, hw⟩
    | succ i ih =>
      intro j hw
      cases j with
      | zero => rw [way_left] at hw; omega
      | succ j =>
        cases hb : eqL a b i j with
        | true =>
          rw [way_hit hb] at hw
          obtain ⟨rfl, rfl⟩ := ih j hw
          rw [first] at hb; cases hb
        | false => rw [way_miss hb] at hw; omega
  unfold cntL
  rw [hla, hlb, way_miss e0]
  have g1 : wayF (eqL a b) a2.length (b2.length + 1) ≠ 0 := fun h => by have := (hl _ _ h).2; omega
  have g2 : wayF (eqL a b) (a2.length + 1) b2.length ≠ 0 := fun h => by have := (hl _ _ h).1; omega
  omega
def lcsF (e : Nat → Nat → Bool) : Nat → Nat → Nat
  | 0, _ => 0
  | _ + 1, 0 => 0
  | i + 1, j + 1 => if e i j = true then lcsF e i j + 1 else max (lcsF e i (j + 1)) (lcsF e (i + 1) j)
termination_by i j => (i, j)
theorem lcs_way {e : Nat → Nat → Bool} : ∀ i j, 2 * lcsF e i j + wayF e i j = i + j
  | 0, j => by rw [way_zero, lcsF]
  | i + 1, 0 => by rw [way_left, lcsF]; omega
  | i + 1, j + 1 => by
    have h1 := lcs_way (e := e) i j
    have h2 := lcs_way (e := e) i (j + 1)
    have h3 := lcs_way (e := e) (i + 1) j
    cases hb : e i j with
    | true => rw [way_hit hb, lcsF, if_pos hb]; omega
    | false => rw [way_miss hb, lcsF, if_neg (by rw [hb]; decide)]; omega
termination_by i j => (i, j)
end Go.Sv
