/- A hunk's first line: what the document's side answers. -/
import Derived.Test.YtgdnoobpnhmpjaaGreatDoorSmN
import Derived.Test.YtgdnoobpnhmpjaaGreatDoorHk
set_option linter.unusedVariables false
set_option linter.unusedSimpArgs false
set_option maxRecDepth 100000
namespace Go.Sv
open Go Go.RowKit Go.Proofs
def firstF (l : Ln) : Option (Nat × Nat × Ln) := match behF (bareB l) [64, 64, 32, 45] with
  | none => none
  | some s1 => match rangeF s1 with
    | none => none
    | some (a, s2) => match behF s2 [32, 43] with
      | none => none
      | some s3 => match rangeF s3 with
        | none => none
        | some (b, s4) => match behF s4 [32, 64, 64] with
          | none => none
          | some s5 => if s5 = [] ∨ s5.head? = some 32 then some (a, b, s5) else none
theorem bareB_len (s : Ln) : (bareB s).length ≤ s.length := by
  unfold bareB
  split
  · rw [List.length_dropLast]; omega
  · exact Nat.le_refl _
theorem rangeF_len {s t : Ln} {a : Nat} (h : rangeF s = some (a, t)) : t.length ≤ s.length := by
  unfold rangeF at h
  split at h
  · cases h
  · rename_i a' t' e
    have l1 := numF_len e
    split at h
    · cases h; exact l1
    · rename_i u e2
      have l2 := behF_len e2
      split at h
      · cases h
      · rename_i b v e3
        have l3 := numF_len e3
        cases h; omega
section
variable {w0 : Base} {σ : Store} {R : AV → Store → Prop}
theorem rbare_spec {s : Ln} (hs : s.length ≤ 1099511627776) (hR : R (.pv (.str (bareB s))) σ) : SCalls (cx w0) selvageref01_Bare.id [.pv (.str s)] σ R := by
  refine selvageref01_Bare.calls ?_
  rw [selvageref01_Bare.b0_eq]
  refine rwhole_spec (by omega) (isB_in ?_)
  unfold bareB at hR
  refine condB_split (fun g => ?_) (fun g => ?_)
  · rw [if_pos g] at hR
    have hne : s ≠ [] := fun e => by rw [e] at g; cases g
    have hp := List.length_pos_iff.2 hne
    rw [wrap_i64 (by omega) (by omega), show ((s.length : Int) - 1) = ((s.length - 1 : Nat) : Int) by omega]
    refine opt_in (slice_take (by omega)) (isS_in (fin_same ?_))
    rw [← List.dropLast_eq_take]
    exact hR
  · rw [if_neg (by rw [g]; decide)] at hR
    exact fin_same hR
theorem first2_spec {l : Ln} (hs : l.length ≤ 1099511627776) (h1 : ∀ a b t, firstF l = some (a, b, t) → R (.tup [.pv (.int .i64 (a : Nat)), .pv (.int .i64 (b : Nat)), .pv (.str t), .pv (.bool true)]) σ) (h2 : firstF l = none → ∀ a b t, R (.tup [.pv (.int .i64 a), .pv (.int .i64 b), .pv (.str t), .pv (.bool false)]) σ) : SCalls (cx w0) selvageref28_first2.id [.pv (.str l)] σ R := by
  have h22 : ∀ (a b : Int) (t : Ln) (q : Bool), (q = true → ∃ a' b' : Nat, a = a' ∧ b = b' ∧ firstF l = some (a', b', t)) → (q = false → firstF l = none) → selvageref28_first2.n22 (selvageref28_first2.X w0 σ.length) w0 σ.length R σ a b t q := by
    intro a b t q g1 g2
    refine selvageref28_first2.n22_in ?_
    rw [selvageref28_first2.b22_eq]
    cases q with
    | true => obtain ⟨a', b', rfl, rfl, e⟩ := g1 rfl; exact fin_same (h1 _ _ _ e)
    | false => exact fin_same (h2 (g2 rfl) _ _ _)
  have no20 : ∀ (a b : Int) (t : Ln), firstF l = none → selvageref28_first2.n20 (selvageref28_first2.X w0 σ.length) w0 σ.length R σ t false a b := by
    intro a b t e
    refine selvageref28_first2.n20_in ?_
    rw [selvageref28_first2.b20_eq, condB_false']
    exact h22 _ _ _ _ nofun (fun _ => e)
  have no12 : ∀ (a : Int) (t : Ln), firstF l = none → selvageref28_first2.n12 (selvageref28_first2.X w0 σ.length) w0 σ.length R σ t false a := by
    intro a t e
    refine selvageref28_first2.n12_in ?_
    rw [selvageref28_first2.b12_eq]
    refine rranged_no ?_
    repeat ((with_reducible first | apply opt_in | apply wI | apply wT | apply wP | apply wS | apply wB); exact rfl)
    rw [condB_false']
    exact no20 _ _ _ e
  have l0 := bareB_len l
  refine selvageref28_first2.calls ?_
  rw [selvageref28_first2.b0_eq]
  refine rbare_spec hs (isS_in ?_)
  refine Behind_spec ?_
  unfold behA
  cases e1 : behF (bareB l) [64, 64, 32, 45] with
  | none =>
    have en : firstF l = none := by unfold firstF; rw [e1]
    repeat ((with_reducible first | apply opt_in | apply wI | apply wT | apply wP | apply wS | apply wB); exact rfl)
    refine rranged_no ?_
    repeat ((with_reducible first | apply opt_in | apply wI | apply wT | apply wP | apply wS | apply wB); exact rfl)
    rw [condB_false']
    exact no12 _ _ en
  | some s1 =>
    have l1 := behF_len e1
    repeat ((with_reducible first | apply opt_in | apply wI | apply wT | apply wP | apply wS | apply wB); exact rfl)
    refine rranged_spec (by omega) (fun a s2 e2 => ?_) (fun e2 a s2 => ?_)
    · have l2 := rangeF_len e2
      repeat ((with_reducible first | apply opt_in | apply wI | apply wT | apply wP | apply wS | apply wB); exact rfl)
      rw [condB_true']
      refine Behind_spec ?_
      unfold behA
      cases e3 : behF s2 [32, 43] with
      | none =>
        have en : firstF l = none := by unfold firstF; rw [e1]; simp only [e2, e3]
        repeat ((with_reducible first | apply opt_in | apply wI | apply wT | apply wP | apply wS | apply wB); exact rfl)
        exact no12 _ _ en
      | some s3 =>
        have l3 := behF_len e3
        repeat ((with_reducible first | apply opt_in | apply wI | apply wT | apply wP | apply wS | apply wB); exact rfl)
        refine selvageref28_first2.n12_in ?_
        rw [selvageref28_first2.b12_eq]
        refine rranged_spec (by omega) (fun b s4 e4 => ?_) (fun e4 b s4 => ?_)
        · repeat ((with_reducible first | apply opt_in | apply wI | apply wT | apply wP | apply wS | apply wB); exact rfl)
          rw [condB_true']
          refine Behind_spec ?_
          unfold behA
          cases e5 : behF s4 [32, 64, 64] with
          | none =>
            have en : firstF l = none := by unfold firstF; rw [e1]; simp only [e2, e3, e4, e5]
            repeat ((with_reducible first | apply opt_in | apply wI | apply wT | apply wP | apply wS | apply wB); exact rfl)
            exact no20 _ _ _ en
          | some s5 =>
            have ef : firstF l = if s5 = [] ∨ s5.head? = some 32 then some (a, b, s5) else none := by unfold firstF; rw [e1]; simp only [e2, e3, e4, e5]
            repeat ((with_reducible first | apply opt_in | apply wI | apply wT | apply wP | apply wS | apply wB); exact rfl)
            refine selvageref28_first2.n20_in ?_
            rw [selvageref28_first2.b20_eq, condB_true', condB_sbeq]
            refine ite_split (fun g => ?_) (fun g => ?_)
            · exact h22 _ _ _ _ (fun _ => ⟨a, b, rfl, rfl, by rw [ef, if_pos (.inl g)]⟩) nofun
            · obtain ⟨c, r0, rfl⟩ : ∃ c r0, s5 = c :: r0 := by
                cases s5 with
                | nil => exact absurd rfl g
                | cons c r0 => exact ⟨c, r0, rfl⟩
              refine opt_in (idx_str (k := 0) (c := c) rfl) (isI_in ?_)
              have hc : ((c.toNat : Int) == 32) = decide (c = 32) := by
                rw [Bool.eq_iff_iff, beq_iff_eq, decide_eq_true_eq]
                exact ⟨fun h => UInt8.toNat_inj.1 (by have : UInt8.toNat 32 = 32 := rfl; omega), fun h => by rw [h]; rfl⟩
              rw [hc]
              refine h22 _ _ _ _ (fun q => ⟨a, b, rfl, rfl, ?_⟩) (fun q => ?_)
              · rw [ef, if_pos (.inr (by rw [of_decide_eq_true q]; rfl))]
              · have hn := of_decide_eq_false q
                rw [ef, if_neg (fun h => h.elim (fun h => by cases h) (fun h => hn (by simpa using h)))]
        · have en : firstF l = none := by unfold firstF; rw [e1]; simp only [e2, e3, e4]
          repeat ((with_reducible first | apply opt_in | apply wI | apply wT | apply wP | apply wS | apply wB); exact rfl)
          rw [condB_false']
          exact no20 _ _ _ en
    · have en : firstF l = none := by unfold firstF; rw [e1]; simp only [e2]
      repeat ((with_reducible first | apply opt_in | apply wI | apply wT | apply wP | apply wS | apply wB); exact rfl)
      rw [condB_false']
      exact no12 _ _ en
end
end Go.Sv
