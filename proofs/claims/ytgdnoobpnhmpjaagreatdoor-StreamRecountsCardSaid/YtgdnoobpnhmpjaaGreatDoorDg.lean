/- A number's text, by the document's Digits. -/
import Derived.Test.YtgdnoobpnhmpjaaGreatDoorUnC
import Derived.Test.YtgdnoobpnhmpjaaGreatDoorSvV
import Derived.Lib.ItoaLen
set_option linter.unusedVariables false
set_option linter.unusedSimpArgs false
set_option maxRecDepth 100000
namespace Go.Sv
open Go Go.RowKit Go.Proofs
section
variable {w0 : Base} {σ : Store} {R : AV → Store → Prop}
theorem digit_slice : ∀ (d : Nat), d < 10 → aSlice σ tabS ti9.td (.pv (.str [48, 49, 50, 51, 52, 53, 54, 55, 56, 57])) (some (.pv (.int .i64 (d : Int)))) (some (.pv (.int .i64 (IntKind.wrap .i64 ((d : Int) + 1))))) = some (.pv (.str [UInt8.ofNat (48 + d)]))
  | 0, _ => rfl | 1, _ => rfl | 2, _ => rfl | 3, _ => rfl | 4, _ => rfl | 5, _ => rfl | 6, _ => rfl | 7, _ => rfl | 8, _ => rfl | 9, _ => rfl
  | d + 10, h => by omega
theorem dec_len {u : Nat} (h : u ≤ 9223372036854775807) : (Lib.decDigits u).length ≤ 20 := by
  rw [Lib.decDigits_length]; exact Lib.nDigits_le20 u (by omega)
theorem Digits_nat : ∀ (u : Nat), u ≤ 9223372036854775807 → ∀ {σ : Store} {R : AV → Store → Prop}, R (.pv (.str (Lib.decDigits u))) σ → SCalls (cx w0) selvageref11_Digits.id [.pv (.int .i64 (u : Int))] σ R := by
  intro u
  induction u using Nat.strongRecOn with
  | ind u ih =>
    intro hu σ R hR
    refine selvageref11_Digits.calls ?_
    rw [selvageref11_Digits.b0_eq, condB_decide, if_neg (by omega), condB_decide]
    refine ite_split (fun h => ?_) (fun h => ?_)
    · refine opt_in (digit_slice u (by omega)) (isS_in (fin_same ?_))
      rw [Lib.decDigits, dif_pos (by omega)] at hR
      exact hR
    · have e1 : Int.tmod (u : Int) 10 = ((u % 10 : Nat) : Int) := by rw [Int.tmod_eq_emod_of_nonneg (by omega)]; omega
      have e2 : Int.tdiv (u : Int) 10 = ((u / 10 : Nat) : Int) := by rw [Int.tdiv_eq_ediv_of_nonneg (by omega)]; omega
      rw [e1, e2, wrap_i64 (n := ((u / 10 : Nat) : Int)) (by omega) (by omega)]
      refine ⟨by decide, by decide, by decide, opt_in (digit_slice (u % 10) (by omega)) (isS_in ?_)⟩
      refine ih (u / 10) (by omega) (by omega) (isS_in ?_)
      refine ⟨opt_in (digit_slice (u % 10) (by omega)) rfl, ?_, fin_same ?_⟩
      · have := dec_len (u := u / 10) (by omega)
        simp only [List.length_cons, List.length_nil]
        omega
      · rw [Lib.decDigits, dif_neg (by omega)] at hR
        exact hR
theorem itoa_dec {n : Int} (h : 0 ≤ n) : Lib.itoa n = Lib.decDigits n.toNat := by unfold Lib.itoa; rw [if_neg (by omega)]
theorem Digits_spec {n : Int} (h0 : 0 ≤ n) (h1 : n ≤ 9223372036854775807) (hR : R (.pv (.str (Lib.itoa n))) σ) : SCalls (cx w0) selvageref11_Digits.id [.pv (.int .i64 n)] σ R := by
  obtain ⟨u, rfl⟩ : ∃ u : Nat, n = u := ⟨n.toNat, by omega⟩
  rw [Lib.itoa_nonneg] at hR
  exact Digits_nat u (by omega) hR
end
end Go.Sv
