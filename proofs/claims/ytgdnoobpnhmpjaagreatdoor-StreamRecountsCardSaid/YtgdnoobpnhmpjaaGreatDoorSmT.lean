/- A hunk's first line: what the program answers of a line. -/
import Derived.Test.YtgdnoobpnhmpjaaGreatDoorSmS
set_option linter.unusedVariables false
set_option linter.unusedSimpArgs false
set_option maxRecDepth 100000
namespace Go.Sv
open Go Go.RowKit Go.Proofs
section
variable {w0 : Base} {σ : Store} {R : AV → Store → Prop}
theorem first_spec (L : Laid w0.w) {l : Ln} (hs : l.length ≤ 1099511627776) (h1 : ∀ a b t, firstF l = some (a, b, t) → R (.tup [.pv (.int .i64 (a : Nat)), .pv (.int .i64 (b : Nat)), .pv (.str t), .pv (.bool true)]) σ) (h2 : firstF l = none → ∀ a b t, R (.tup [.pv (.int .i64 a), .pv (.int .i64 b), .pv (.str t), .pv (.bool false)]) σ) : SCalls (cx w0) stream_first.id [.pv (.str l)] σ R := by
  have h38 : ∀ (a b : Int) (t : Ln) (q : Bool), (q = true → ∃ a' b' : Nat, a = a' ∧ b = b' ∧ firstF l = some (a', b', t)) → (q = false → firstF l = none) → stream_first.n38 (stream_first.X w0 σ.length) w0 σ.length R σ a b t q := by
    intro a b t q g1 g2
    refine stream_first.n38_in ?_
    rw [stream_first.b38_eq]
    cases q with
    | true => obtain ⟨a', b', rfl, rfl, e⟩ := g1 rfl; exact fin_same (h1 _ _ _ e)
    | false => exact fin_same (h2 (g2 rfl) _ _ _)
  have no36 : ∀ (a b : Int) (t : Ln), firstF l = none → stream_first.n36 (stream_first.X w0 σ.length) w0 σ.length R σ t false a b := by
    intro a b t e
    refine stream_first.n36_in ?_
    rw [stream_first.b36_eq, condB_false']
    exact h38 _ _ _ _ nofun (fun _ => e)
  have no20 : ∀ (a : Int) (t : Ln), firstF l = none → stream_first.n20 (stream_first.X w0 σ.length) w0 σ.length R σ t false a := by
    intro a t e
    refine stream_first.n20_in ?_
    rw [stream_first.b20_eq, show (!false) = true from rfl, condB_true']
    exact fin_same (h2 e _ _ _)
  have l0 := bareB_len l
  refine stream_first.calls ?_
  rw [stream_first.b0_eq]
  refine bare_spec (by omega) (isS_in ?_)
  refine CutP_spec ?_
  unfold cutA
  cases e1 : behF (bareB l) [64, 64, 32, 45] with
  | none =>
    have en : firstF l = none := by unfold firstF; rw [e1]
    repeat ((with_reducible first | apply opt_in | apply wI | apply wT | apply wP | apply wS | apply wB); exact rfl)
    rw [show (!false) = true from rfl, condB_true']
    exact fin_same (h2 en _ _ _)
  | some s1 =>
    have l1 := behF_len e1
    repeat ((with_reducible first | apply opt_in | apply wI | apply wT | apply wP | apply wS | apply wB); exact rfl)
    rw [show (!true) = false from rfl, condB_false']
    refine span_spec L (by omega) (fun a s2 e2 => ?_) (fun e2 => ?_)
    · have l2 := rangeF_len e2
      repeat ((with_reducible first | apply opt_in | apply wI | apply wT | apply wP | apply wS | apply wB); exact rfl)
      rw [condB_true']
      refine CutP_spec ?_
      unfold cutA
      cases e3 : behF s2 [32, 43] with
      | none =>
        have en : firstF l = none := by unfold firstF; rw [e1]; simp only [e2, e3]
        repeat ((with_reducible first | apply opt_in | apply wI | apply wT | apply wP | apply wS | apply wB); exact rfl)
        exact no20 _ _ en
      | some s3 =>
        have l3 := behF_len e3
        repeat ((with_reducible first | apply opt_in | apply wI | apply wT | apply wP | apply wS | apply wB); exact rfl)
        refine stream_first.n20_in ?_
        rw [stream_first.b20_eq, show (!true) = false from rfl, condB_false']
        refine span_spec L (by omega) (fun b s4 e4 => ?_) (fun e4 => ?_)
        · repeat ((with_reducible first | apply opt_in | apply wI | apply wT | apply wP | apply wS | apply wB); exact rfl)
          rw [condB_true']
          refine CutP_spec ?_
          unfold cutA
          cases e5 : behF s4 [32, 64, 64] with
          | none =>
            have en : firstF l = none := by unfold firstF; rw [e1]; simp only [e2, e3, e4, e5]
            repeat ((with_reducible first | apply opt_in | apply wI | apply wT | apply wP | apply wS | apply wB); exact rfl)
            exact no36 _ _ _ en
          | some s5 =>
            have ef : firstF l = if s5 = [] ∨ s5.head? = some 32 then some (a, b, s5) else none := by unfold firstF; rw [e1]; simp only [e2, e3, e4, e5]
            repeat ((with_reducible first | apply opt_in | apply wI | apply wT | apply wP | apply wS | apply wB); exact rfl)
            refine stream_first.n36_in ?_
            rw [stream_first.b36_eq, condB_true', condB_sbeq]
            refine ite_split (fun g => ?_) (fun g => ?_)
            · exact h38 _ _ _ _ (fun _ => ⟨a, b, rfl, rfl, by rw [ef, if_pos (.inl g)]⟩) nofun
            · obtain ⟨c, r0, rfl⟩ : ∃ c r0, s5 = c :: r0 := by
                cases s5 with
                | nil => exact absurd rfl g
                | cons c r0 => exact ⟨c, r0, rfl⟩
              refine opt_in (idx_str (k := 0) (c := c) rfl) (isI_in ?_)
              have hc : ((c.toNat : Int) == 32) = decide (c = 32) := by
                rw [Bool.eq_iff_iff, beq_iff_eq, decide_eq_true_eq]
                exact ⟨fun h => UInt8.toNat_inj.1 (by have : UInt8.toNat 32 = 32 := rfl; omega), fun h => by rw [h]; rfl⟩
              rw [hc]
              refine h38 _ _ _ _ (fun q => ⟨a, b, rfl, rfl, ?_⟩) (fun q => ?_)
              · rw [ef, if_pos (.inr (by rw [of_decide_eq_true q]; rfl))]
              · have hn := of_decide_eq_false q
                rw [ef, if_neg (fun h => h.elim (fun h => by cases h) (fun h => hn (by simpa using h)))]
        · have en : firstF l = none := by unfold firstF; rw [e1]; simp only [e2, e3, e4]
          repeat ((with_reducible first | apply opt_in | apply wI | apply wT | apply wP | apply wS | apply wB); exact rfl)
          rw [condB_false']
          exact no36 _ _ _ en
    · have en : firstF l = none := by unfold firstF; rw [e1]; simp only [e2]
      repeat ((with_reducible first | apply opt_in | apply wI | apply wT | apply wP | apply wS | apply wB); exact rfl)
      rw [condB_false']
      exact no20 _ _ en
end
end Go.Sv
