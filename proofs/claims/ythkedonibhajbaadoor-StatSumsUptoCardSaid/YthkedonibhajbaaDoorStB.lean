/- stat.Bar and the document's Bar: what they answer. -/
import Derived.Test.YthkedonibhajbaaDoorFnA
import Derived.Test.YthkedonibhajbaaDoorSvV
set_option linter.unusedVariables false
set_option linter.unusedSimpArgs false
set_option maxRecDepth 100000
namespace Go.Sv
open Go Go.RowKit Go.Proofs

def inN (n : Int) : Bool := decide (0 ≤ n) && decide (n ≤ 2147483647)
theorem inN_iff {n : Int} : inN n = true ↔ 0 ≤ n ∧ n ≤ 2147483647 := by simp [inN]
/-! ### What is answered, as numbers -/
def scF (x w m : Int) : Int := if x = 0 then 0 else IntKind.wrap .i64 (1 + IntKind.wrap .i64 (Int.tdiv (IntKind.wrap .i64 (x * IntKind.wrap .i64 (w - 1))) m))
def okB (a d w m : Int) : Bool := inN a && inN d && inN w && !decide (w < 2) && !decide (m < IntKind.wrap .i64 (a + d)) && decide (m ≤ 4294967294)
def longF (a d w m : Int) : Int := if a > 0 ∧ d > 0 then (if (2 : Int) > scF (IntKind.wrap .i64 (a + d)) w m then 2 else scF (IntKind.wrap .i64 (a + d)) w m) else scF (IntKind.wrap .i64 (a + d)) w m
def fewF (a d w m : Int) : Int := if a > 0 ∧ d > 0 then (if IntKind.wrap .i64 (longF a d w m - 1) < (if (1 : Int) > scF (if d < a then d else a) w m then 1 else scF (if d < a then d else a) w m) then IntKind.wrap .i64 (longF a d w m - 1) else (if (1 : Int) > scF (if d < a then d else a) w m then 1 else scF (if d < a then d else a) w m)) else scF (if d < a then d else a) w m
def barV (p : Int × Int) : AV := .tup [.pv (.int .i64 p.1), .pv (.int .i64 p.2)]
def refB (a d w m : Int) : Int × Int := if okB a d w m = true then (if m ≤ w then (a, d) else if a ≤ d then (scF a w m, IntKind.wrap .i64 (longF a d w m - scF a w m)) else (IntKind.wrap .i64 (longF a d w m - scF d w m), scF d w m)) else (0, 0)
def proB (a d w m : Int) : Int × Int := if okB a d w m = true then (if m ≤ w then (a, d) else if a ≤ d then (fewF a d w m, IntKind.wrap .i64 (longF a d w m - fewF a d w m)) else (IntKind.wrap .i64 (longF a d w m - fewF a d w m), fewF a d w m)) else (0, 0)
theorem refB_bad {a d w m : Int} (h : okB a d w m = false) : refB a d w m = (0, 0) := by simp [refB, h]
theorem refB_good {a d w m : Int} (h : okB a d w m = true) : refB a d w m = (if m ≤ w then (a, d) else if a ≤ d then (scF a w m, IntKind.wrap .i64 (longF a d w m - scF a w m)) else (IntKind.wrap .i64 (longF a d w m - scF d w m), scF d w m)) := if_pos h
theorem proB_bad {a d w m : Int} (h : okB a d w m = false) : proB a d w m = (0, 0) := by simp [proB, h]
theorem proB_good {a d w m : Int} (h : okB a d w m = true) : proB a d w m = (if m ≤ w then (a, d) else if a ≤ d then (fewF a d w m, IntKind.wrap .i64 (longF a d w m - fewF a d w m)) else (IntKind.wrap .i64 (longF a d w m - fewF a d w m), fewF a d w m)) := if_pos h
section
variable {w0 : Base} {σ : Store} {R : AV → Store → Prop}
theorem fits_spec {n : Int} (hR : R (.pv (.bool (inN n))) σ) : SCalls (cx w0) stat_fits.id [.pv (.int .i64 n)] σ R := by
  refine stat_fits.calls ?_
  rw [stat_fits.b0_eq]
  unfold inN at hR
  refine condB_split (fun h => fin_same ?_) (fun h => fin_same ?_)
  · rw [show decide (0 ≤ n) = true from h, Bool.true_and] at hR; exact hR
  · rw [show decide (0 ≤ n) = false from h, Bool.false_and] at hR; exact hR
theorem in_spec {n : Int} (hR : R (.pv (.bool (inN n))) σ) : SCalls (cx w0) selvageref16_in.id [.pv (.int .i64 n)] σ R := by
  refine selvageref16_in.calls ?_
  rw [selvageref16_in.b0_eq]
  unfold inN at hR
  refine condB_split (fun h => fin_same ?_) (fun h => fin_same ?_)
  · rw [show decide (0 ≤ n) = true from h, Bool.true_and] at hR; exact hR
  · rw [show decide (0 ≤ n) = false from h, Bool.false_and] at hR; exact hR
theorem scaled_spec {x w m : Int} (hm : m ≠ 0) (hR : R (.pv (.int .i64 (scF x w m))) σ) : SCalls (cx w0) selvageref16_scaled.id [.pv (.int .i64 x), .pv (.int .i64 w), .pv (.int .i64 m)] σ R := by
  refine selvageref16_scaled.calls ?_
  rw [selvageref16_scaled.b0_eq, condB_ibeq]
  unfold scF at hR
  refine ite_split (fun h => fin_same ?_) (fun h => ⟨hm, fin_same ?_⟩)
  · rw [if_pos h] at hR; exact hR
  · rw [if_neg h] at hR; exact hR
theorem closure_spec {x w m : Int} (hm : m ≠ 0) {i j : Nat} {ty ty' : TypeId} (hi : σ[i]? = some (.cells ty [.pv (.int .i64 w)])) (hj : σ[j]? = some (.cells ty' [.pv (.int .i64 m)])) (hR : R (.pv (.int .i64 (scF x w m))) σ) : SCalls (cx w0) stat_Bar_1.id [.pv (.int .i64 x), .ptr i 0, .ptr j 0] σ R := by
  refine stat_Bar_1.calls ?_
  rw [stat_Bar_1.b0_eq, condB_ibeq]
  unfold scF at hR
  refine ite_split (fun h => fin_same ?_) (fun h => ?_)
  · rw [if_pos h] at hR; exact hR
  · rw [if_neg h] at hR
    refine opt_in (v := .pv (.int .i64 w)) (by rw [aLoad_cells hi]; rfl) (isI_in ?_)
    refine opt_in (v := .pv (.int .i64 m)) (by rw [aLoad_cells hj]; rfl) (isI_in ?_)
    exact ⟨hm, fin_same hR⟩
theorem refBar_spec {a d w m : Int} (hR : R (barV (refB a d w m)) σ) : SCalls (cx w0) selvageref16_Bar.id [.pv (.int .i64 a), .pv (.int .i64 d), .pv (.int .i64 w), .pv (.int .i64 m)] σ R := by
  have bad : okB a d w m = false → FinK (cx w0) σ.length (.tup [(.pv (.int .i64 0)), (.pv (.int .i64 0))]) σ R := fun h => by
    rw [refB_bad h] at hR; exact fin_same hR
  refine selvageref16_Bar.calls ?_
  rw [selvageref16_Bar.b0_eq]
  refine in_spec (isB_in ?_)
  rw [condB_not]
  refine condB_split (fun h1 => ?_) (fun h1 => bad (by simp [okB, h1]))
  refine in_spec (isB_in ?_)
  rw [condB_not]
  refine condB_split (fun h2 => ?_) (fun h2 => bad (by simp [okB, h2]))
  refine in_spec (isB_in ?_)
  rw [condB_not]
  refine condB_split (fun h3 => ?_) (fun h3 => bad (by simp [okB, h3]))
  simp only [condB_decide]
  refine ite_split (fun h4 => bad (by simp [okB, h4])) (fun h4 => ?_)
  refine ite_split (fun h5 => bad (by simp [okB, h5])) (fun h5 => ?_)
  refine ite_split (fun h6 => bad (by simp [okB]; intros; omega)) (fun h6 => ?_)
  have hok : okB a d w m = true := by simp [okB, h1, h2, h3, h4, h5]; omega
  have ⟨hw1, hw2⟩ := inN_iff.1 h3
  rw [refB_good hok] at hR
  refine ite_split (fun h7 => fin_same ?_) (fun h7 => ?_)
  · rw [if_pos h7] at hR; exact hR
  rw [if_neg h7] at hR
  have hm : m ≠ 0 := by omega
  have last : ∀ long, long = longF a d w m → selvageref16_Bar.n26 (selvageref16_Bar.X w0 σ.length) w0 σ.length R σ a d w m long := by
    rintro long rfl
    refine selvageref16_Bar.n26_in ?_
    rw [selvageref16_Bar.b26_eq, condB_decide]
    refine ite_split (fun h8 => scaled_spec hm (isI_in (fin_same ?_))) (fun h8 => scaled_spec hm (isI_in (fin_same ?_)))
    · rw [if_pos h8] at hR; exact hR
    · rw [if_neg h8] at hR; exact hR
  refine scaled_spec hm (isI_in ?_)
  refine ite_split (fun h8 => ite_split (fun h9 => last _ ?_) (fun h9 => last _ ?_)) (fun h8 => last _ ?_)
  · exact (if_pos ⟨h8, h9⟩).symm
  · exact (if_neg (fun h => h9 h.2)).symm
  · exact (if_neg (fun h => h8 h.1)).symm
theorem progBar_spec (L : Laid w0.w) {a d w m : Int} (hR : R (barV (proB a d w m)) σ) : SCalls (cx w0) stat_Bar.id [.pv (.int .i64 a), .pv (.int .i64 d), .pv (.int .i64 w), .pv (.int .i64 m)] σ R := by
  refine SCalls.alone L rfl (fun w1 L1 => ?_) rfl hR
  clear hR
  have bad : okB a d w m = false → FinK (cx w1) 0 (.tup [(.pv (.int .i64 0)), (.pv (.int .i64 0))]) [.cells 3 [.pv (.int .i64 w)], .cells 3 [.pv (.int .i64 m)]] (fun r' _ => r' = barV (proB a d w m)) := fun h => by
    rw [proB_bad h]; exact fin_keep (Nat.zero_le _) rfl
  refine stat_Bar.calls ?_
  rw [stat_Bar.b0_eq]
  refine ⟨rfl, rfl, ?_⟩
  refine fits_spec (isB_in ?_)
  rw [condB_not]
  refine condB_split (fun h1 => ?_) (fun h1 => bad (by simp [okB, h1]))
  refine fits_spec (isB_in ?_)
  rw [condB_not]
  refine condB_split (fun h2 => ?_) (fun h2 => bad (by simp [okB, h2]))
  refine opt_in rfl (isI_in ?_)
  refine fits_spec (isB_in ?_)
  rw [condB_not]
  refine condB_split (fun h3 => ?_) (fun h3 => bad (by simp [okB, h3]))
  refine opt_in rfl (isI_in ?_)
  rw [condB_decide]
  refine ite_split (fun h6 => bad (by simp [okB]; intros; omega)) (fun h6 => ?_)
  refine opt_in rfl (isI_in ?_)
  rw [condB_decide]
  refine ite_split (fun h4 => bad (by simp [okB, h4])) (fun h4 => ?_)
  refine opt_in rfl (isI_in ?_)
  rw [condB_decide]
  refine ite_split (fun h5 => bad (by simp [okB, h5])) (fun h5 => ?_)
  have hok : okB a d w m = true := by simp [okB, h1, h2, h3, h4, h5]; omega
  have ⟨hw1, hw2⟩ := inN_iff.1 h3
  refine opt_in rfl (isI_in ?_)
  refine opt_in rfl (isI_in ?_)
  rw [proB_good hok]
  simp only [condB_decide]
  refine ite_split (fun h7 => fin_keep (Nat.zero_le _) ?_) (fun h7 => ?_)
  · rw [if_pos h7]; rfl
  rw [if_neg h7]
  have hm : m ≠ 0 := by omega
  have last : ∀ both long, both = decide (a > 0 ∧ d > 0) → long = longF a d w m → stat_Bar.n30 (stat_Bar.X w1 0) w1 0 (fun r' _ => r' = barV (if a ≤ d then (fewF a d w m, IntKind.wrap .i64 (longF a d w m - fewF a d w m)) else (IntKind.wrap .i64 (longF a d w m - fewF a d w m), fewF a d w m))) [.cells 3 [.pv (.int .i64 w)], .cells 3 [.pv (.int .i64 m)]] a d (.func (.func 24) [] [(.ptr 0 0), (.ptr 1 0)]) both long := by
    rintro both long hb rfl
    have fin : ∀ few, few = fewF a d w m → stat_Bar.n38 (stat_Bar.X w1 0) w1 0 (fun r' _ => r' = barV (if a ≤ d then (fewF a d w m, IntKind.wrap .i64 (longF a d w m - fewF a d w m)) else (IntKind.wrap .i64 (longF a d w m - fewF a d w m), fewF a d w m))) [.cells 3 [.pv (.int .i64 w)], .cells 3 [.pv (.int .i64 m)]] a d (longF a d w m) few := by
      rintro few rfl
      refine stat_Bar.n38_in ?_
      rw [stat_Bar.b38_eq, condB_decide]
      refine ite_split (fun h8 => fin_keep (Nat.zero_le _) ?_) (fun h8 => fin_keep (Nat.zero_le _) ?_)
      · rw [if_pos h8]; rfl
      · rw [if_neg h8]; rfl
    refine stat_Bar.n30_in ?_
    rw [stat_Bar.b30_eq]
    refine opt_in rfl (closure_spec (i := 0) (j := 1) hm rfl rfl (isI_in ?_))
    refine condB_split (fun h => fin _ ?_) (fun h => fin _ ?_)
    · have : a > 0 ∧ d > 0 := by simpa [hb] using h
      exact (if_pos this).symm
    · have : ¬ (a > 0 ∧ d > 0) := by simpa [hb] using h
      exact (if_neg this).symm
  refine ite_split (fun h8 => opt_in rfl (closure_spec (i := 0) (j := 1) hm rfl rfl (isI_in (ite_split (fun h9 => last _ _ ?_ ?_) (fun h9 => last _ _ ?_ ?_))))) (fun h8 => opt_in rfl (closure_spec (i := 0) (j := 1) hm rfl rfl (isI_in (last _ _ ?_ ?_))))
  · simp [h8]
  · exact (if_pos ⟨h8, h9⟩).symm
  · simp [h9]
  · exact (if_neg (fun h => h9 h.2)).symm
  · simp [h8]
  · exact (if_neg (fun h => h8 h.1)).symm
end
end Go.Sv
