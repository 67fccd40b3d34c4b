/- A text with its counts put right, as plain lists; what both sides tell a range as. -/
import Derived.Test.YtgdnoobpnhmpjaaGreatDoorSmT
import Derived.Test.YtgdnoobpnhmpjaaGreatDoorDg
set_option linter.unusedVariables false
set_option linter.unusedSimpArgs false
set_option maxRecDepth 100000
namespace Go.Sv
open Go Go.RowKit Go.Proofs
def tellF (a n : Nat) : Ln := if n = 1 then Lib.itoa (a : Int) else (Lib.itoa (a : Int) ++ [44]) ++ Lib.itoa (n : Int)
def lineF (l : Ln) (a b o f : Nat) (t : Ln) : Ln := ((((([64, 64, 32, 45] ++ tellF a o) ++ [32, 43]) ++ tellF b f) ++ [32, 64, 64]) ++ t) ++ l.drop (bareB l).length
def recF : Nat → Bool → List Ln → List Ln
  | 0, _, L => L
  | _ + 1, _, [] => []
  | q + 1, b, l :: r => if headF (l :: r) = true then l :: (match r with
      | [] => []
      | m :: r' => m :: recF q true r') else match (if b = true then firstF l else none) with
    | none => l :: recF q false r
    | some (x, y, t) => lineF l x y (rowsN r).2.1 (rowsN r).2.2 t :: (r.take (rowsN r).1 ++ recF q true (r.drop (rowsN r).1))
section
variable {w0 : Base} {σ : Store} {R : AV → Store → Prop}
theorem dec_short {n : Nat} (h : n ≤ 9223372036854775807) : (Lib.itoa (n : Int)).length ≤ 20 := by
  rw [itoa_dec (by omega), Int.toNat_natCast]
  exact dec_len h
theorem tell_len {a n : Nat} (ha : a ≤ 9223372036854775807) (hn : n ≤ 9223372036854775807) : (tellF a n).length ≤ 41 := by
  have h1 := dec_short ha
  have h2 := dec_short hn
  unfold tellF
  split
  · omega
  · rw [List.length_append, List.length_append, List.length_singleton]; omega
theorem ranged_spec (L : Laid w0.w) {a n : Nat} (ha : a ≤ 9223372036854775807) (hn : n ≤ 9223372036854775807) (hR : R (.pv (.str (tellF a n))) σ) : SCalls (cx w0) stream_ranged.id [.pv (.int .i64 (a : Nat)), .pv (.int .i64 (n : Nat))] σ R := by
  have h1 := dec_short ha
  have h2 := dec_short hn
  unfold tellF at hR
  refine stream_ranged.calls ?_
  rw [stream_ranged.b0_eq, condB_ibeq]
  refine ite_split (fun g => ?_) (fun g => ?_)
  · rw [if_pos (by omega)] at hR
    exact Itoa_spec L (by omega) (by omega) (isS_in (fin_same hR))
  · rw [if_neg (by omega)] at hR
    refine Itoa_spec L (by omega) (by omega) (isS_in ⟨by simp only [List.length_singleton]; omega, ?_⟩)
    refine Itoa_spec L (by omega) (by omega) (isS_in ⟨?_, fin_same hR⟩)
    rw [List.length_append, List.length_singleton]; omega
theorem rspan_spec {a n : Nat} (ha : a ≤ 9223372036854775807) (hn : n ≤ 9223372036854775807) (hR : R (.pv (.str (tellF a n))) σ) : SCalls (cx w0) selvageref28_span.id [.pv (.int .i64 (a : Nat)), .pv (.int .i64 (n : Nat))] σ R := by
  have h1 := dec_short ha
  have h2 := dec_short hn
  unfold tellF at hR
  refine selvageref28_span.calls ?_
  rw [selvageref28_span.b0_eq, condB_ibeq]
  refine ite_split (fun g => ?_) (fun g => ?_)
  · rw [if_pos (by omega)] at hR
    exact Digits_spec (by omega) (by omega) (isS_in (fin_same hR))
  · rw [if_neg (by omega)] at hR
    refine Digits_spec (by omega) (by omega) (isS_in ⟨by simp only [List.length_singleton]; omega, ?_⟩)
    refine Digits_spec (by omega) (by omega) (isS_in ⟨?_, fin_same hR⟩)
    rw [List.length_append, List.length_singleton]; omega
end
end Go.Sv
