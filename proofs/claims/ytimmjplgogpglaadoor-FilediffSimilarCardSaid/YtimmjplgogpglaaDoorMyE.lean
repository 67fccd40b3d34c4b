/- The rounds of the search for the middle of a shortest way: what stands in a row that goes round. -/
import Derived.Test.YtimmjplgogpglaaDoorMyD
set_option linter.unusedVariables false
set_option linter.unusedSimpArgs false
namespace Go.Sv
def rngK (n m h : Nat) (k : Int) : Prop := -((h : Int) - 2 * max 0 ((h : Int) - m)) ≤ k ∧ k ≤ (h : Int) - 2 * max 0 ((h : Int) - n) ∧ (k - h) % 2 = 0
def sizeK (n m : Nat) : Nat := 2 * min n m + 2
def wix (n m : Nat) (k : Int) : Nat := (k % (sizeK n m : Int)).toNat
theorem wix_lt (n m : Nat) (k : Int) : wix n m k < sizeK n m := by
  have hp : 0 < (sizeK n m : Int) := by unfold sizeK; omega
  have h1 := Int.emod_nonneg k (Int.ne_of_gt hp)
  have h2 := Int.emod_lt_of_pos k hp
  unfold wix; omega
theorem wix_eq {n m : Nat} {k k' : Int} (h : wix n m k = wix n m k') : (k - k') % (sizeK n m : Int) = 0 := by
  have hp : 0 < (sizeK n m : Int) := by unfold sizeK; omega
  have h1 := Int.emod_nonneg k (Int.ne_of_gt hp)
  have h2 := Int.emod_nonneg k' (Int.ne_of_gt hp)
  unfold wix at h
  have : k % (sizeK n m : Int) = k' % (sizeK n m : Int) := by omega
  exact Int.emod_eq_emod_iff_emod_sub_eq_zero.1 this
theorem wix_ne {n m : Nat} {k k' : Int} (h1 : k ≠ k') (h2 : k - k' < sizeK n m) (h3 : k' - k < sizeK n m) : wix n m k ≠ wix n m k' := by
  intro e
  have := wix_eq e
  obtain ⟨q, hq⟩ := Int.dvd_of_emod_eq_zero this
  have hp : 0 < (sizeK n m : Int) := by unfold sizeK; omega
  have hq0 : q ≠ 0 := fun e => by rw [e, Int.mul_zero] at hq; omega
  by_cases hq1 : 1 ≤ q
  · have := Int.mul_le_mul_of_nonneg_left hq1 (Int.le_of_lt hp)
    rw [Int.mul_one] at this; omega
  · have : (sizeK n m : Int) * q ≤ (sizeK n m : Int) * (-1) := Int.mul_le_mul_of_nonneg_left (by omega) (Int.le_of_lt hp)
    rw [Int.mul_neg, Int.mul_one] at this; omega
theorem wix_odd {n m : Nat} {k k' : Int} (h : (k - k') % 2 = 1) : wix n m k ≠ wix n m k' := by
  intro e
  have := wix_eq e
  obtain ⟨q, hq⟩ := Int.dvd_of_emod_eq_zero this
  have h2 : (sizeK n m : Int) = 2 * ((min n m : Nat) + 1 : Int) := by unfold sizeK; omega
  rw [h2, Int.mul_assoc] at hq
  omega
theorem rng_ne {n m h : Nat} {k k' : Int} (h1 : rngK n m h k) (h2 : rngK n m h k') (hne : k ≠ k') : wix n m k ≠ wix n m k' := by
  unfold rngK at h1 h2
  refine wix_ne hne ?_ ?_ <;> unfold sizeK <;> omega
def RowK (e : Nat → Nat → Bool) (n m h : Nat) (P : Int → Prop) (c : List Int) : Prop := ∀ k, rngK n m h k → P k → ∃ x y : Nat, (x : Int) = y + k ∧ c[wix n m k]? = some (x : Int) ∧ Far e h x y
abbrev allK : Int → Prop := fun _ => True
theorem RowK.put {e : Nat → Nat → Bool} {n m h : Nat} {c : List Int} {k : Int} {x y : Nat} (r : RowK e n m h (fun k' => k' < k) c) (hl : c.length = sizeK n m) (hk : rngK n m h k) (hx : (x : Int) = y + k) (f : Far e h x y) : RowK e n m h (fun k' => k' < k + 2) (c.set (wix n m k) (x : Int)) := by
  intro k' h1 h2
  by_cases g : k' = k
  · subst g
    exact ⟨x, y, hx, by rw [List.getElem?_set_self (by rw [hl]; exact wix_lt n m _)], f⟩
  · have hlt : k' < k := by unfold rngK at h1 hk; omega
    obtain ⟨x', y', a, b, c'⟩ := r k' h1 hlt
    exact ⟨x', y', a, by rw [List.getElem?_set_ne (rng_ne hk h1 (fun e => g e.symm))]; exact b, c'⟩
theorem RowK.keep {e : Nat → Nat → Bool} {n m h : Nat} {P : Int → Prop} {c : List Int} {k v : Int} (r : RowK e n m h P c) (hk : (k - h) % 2 = 1) : RowK e n m h P (c.set (wix n m k) v) := by
  intro k' h1 h2
  obtain ⟨x', y', a, b, c'⟩ := r k' h1 h2
  have hne : wix n m k ≠ wix n m k' := wix_odd (by unfold rngK at h1; omega)
  exact ⟨x', y', a, by rw [List.getElem?_set_ne hne]; exact b, c'⟩
theorem RowK.all {e : Nat → Nat → Bool} {n m h : Nat} {c : List Int} {k : Int} (r : RowK e n m h (fun k' => k' < k) c) (hk : (h : Int) - 2 * max 0 ((h : Int) - n) < k) : RowK e n m h allK c := by
  intro k' h1 _
  exact r k' h1 (by unfold rngK at h1; omega)
theorem RowK.none {e : Nat → Nat → Bool} {n m h : Nat} {c : List Int} : RowK e n m h (fun k' => k' < -((h : Int) - 2 * max 0 ((h : Int) - m))) c := by
  intro k' h1 h2
  unfold rngK at h1
  omega
theorem start_up {e : Nat → Nat → Bool} {n m h : Nat} {c : List Int} {k : Int} (r : RowK e n m h allK c) (hk : rngK n m (h + 1) k) (hne : k ≠ (h : Int) + 1) (hor : k = -((h : Int) + 1) ∨ ∀ v w, c[wix n m (k - 1)]? = some v → c[wix n m (k + 1)]? = some w → v < w) :
    ∃ s t : Nat, c[wix n m (k + 1)]? = some (s : Int) ∧ (s : Int) = t + k ∧ 1 ≤ t ∧ wayF e s t ≤ h + 1 ∧ ((∃ x y, Far e h x y ∧ x + (t + 1) = s + y ∧ x < s) ∨ s + h < t + 1) ∧ ((∃ x y, Far e h x y ∧ x + t = s + 1 + y ∧ x ≤ s) ∨ t + h < s + 1) := by
  obtain ⟨x, y, a1, a2, a3⟩ := r (k + 1) (by unfold rngK at hk ⊢; omega) trivial
  refine ⟨x, y + 1, a2, by omega, by omega, way_from_up a3, ?_, .inl ⟨x, y, a3, by omega, Nat.le_refl _⟩⟩
  by_cases g : k = -((h : Int) + 1)
  · exact .inr (by omega)
  · obtain ⟨x', y', b1, b2, b3⟩ := r (k - 1) (by unfold rngK at hk ⊢; omega) trivial
    have := (hor.resolve_left g) _ _ b2 a2
    exact .inl ⟨x', y', b3, by omega, by omega⟩
theorem start_left {e : Nat → Nat → Bool} {n m h : Nat} {c : List Int} {k : Int} (r : RowK e n m h allK c) (hk : rngK n m (h + 1) k) (hne : k ≠ -((h : Int) + 1)) (hor : k = (h : Int) + 1 ∨ ∀ v w, c[wix n m (k - 1)]? = some v → c[wix n m (k + 1)]? = some w → w ≤ v) :
    ∃ s t : Nat, c[wix n m (k - 1)]? = some ((s : Int) - 1) ∧ (s : Int) = t + k ∧ 1 ≤ s ∧ wayF e s t ≤ h + 1 ∧ ((∃ x y, Far e h x y ∧ x + (t + 1) = s + y ∧ x < s) ∨ s + h < t + 1) ∧ ((∃ x y, Far e h x y ∧ x + t = s + 1 + y ∧ x ≤ s) ∨ t + h < s + 1) := by
  obtain ⟨x, y, a1, a2, a3⟩ := r (k - 1) (by unfold rngK at hk ⊢; omega) trivial
  refine ⟨x + 1, y, by rw [a2]; congr 1; omega, by omega, by omega, way_from_left a3, .inl ⟨x, y, a3, by omega, by omega⟩, ?_⟩
  by_cases g : k = (h : Int) + 1
  · exact .inr (by omega)
  · obtain ⟨x', y', b1, b2, b3⟩ := r (k + 1) (by unfold rngK at hk ⊢; omega) trivial
    have := (hor.resolve_left g) _ _ a2 b2
    exact .inl ⟨x', y', b3, by omega, by omega⟩
end Go.Sv
