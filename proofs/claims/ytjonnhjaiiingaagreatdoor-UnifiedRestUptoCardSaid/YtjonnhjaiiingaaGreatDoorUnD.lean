/- Package unified, printing: names, ranges, order, the text of a hunk: what the program and the document's answer compute. -/
import Derived.Test.YtjonnhjaiiingaaGreatDoorUnB
import Derived.Test.YtjonnhjaiiingaaGreatDoorSvT
import Derived.KernelRfl
import Derived.Test.YtjonnhjaiiingaaGreatDoorStI
import Derived.Test.YtjonnhjaiiingaaGreatDoorSvV
import Derived.Lib.ItoaLen
import Derived.Test.YtjonnhjaiiingaaGreatDoorHk
set_option linter.unusedVariables false
set_option linter.unusedSimpArgs false
set_option maxRecDepth 100000
namespace Go.Sv
section
open Go Go.RowKit
abbrev nmP (p s : List UInt8) : PV := .agg [.str p, .str s]
def placeI (a n : Int) : Int := if n = 0 then a else IntKind.wrap .i64 (a - 1)
def ordB (g h : Hnk) : Bool := decide (placeI h.a h.n ≥ IntKind.wrap .i64 (placeI g.a g.n + g.n)) && decide (placeI h.b h.m ≥ IntKind.wrap .i64 (placeI g.b g.m + g.m))
end
section
open Go Go.RowKit Go.Proofs
variable {w0 : Base} {σ : Store} {R : AV → Store → Prop}
theorem uplace_spec {a n : Int} (hR : R (.pv (.int .i64 (placeI a n))) σ) : SCalls (cx w0) unified_place.id [.pv (.int .i64 a), .pv (.int .i64 n)] σ R := by
  refine unified_place.calls ?_
  rw [unified_place.b0_eq, condB_ibeq]
  unfold placeI at hR
  refine ite_split (fun g => ?_) (fun g => ?_)
  · rw [if_pos g] at hR; exact fin_same hR
  · rw [if_neg g] at hR; exact fin_same hR
theorem follows_spec (L : Laid w0.w) {g h : Hnk} (hR : R (.pv (.bool (ordB g h))) σ) : SCalls (cx w0) unified_follows.id [.pv (hnkP g), .pv (hnkP h)] σ R := by
  refine SCalls.alone L rfl (fun w1 L1 => ?_) rfl hR
  have fin : ∀ t, t = ordB g h → unified_follows.n4 (unified_follows.X w1 0) w1 0 (fun r' _ => r' = .pv (.bool (ordB g h))) [.cells 37 (hnkC g), .cells 37 (hnkC h)] t := by
    rintro t rfl
    refine unified_follows.n4_in ?_
    rw [unified_follows.b4_eq]
    exact fin_keep (Nat.zero_le _) rfl
  refine unified_follows.calls ?_
  rw [unified_follows.b0_eq]
  refine ⟨rfl, rfl, ?_⟩
  repeat ((with_reducible first | apply opt_in | apply wI | apply wT | apply wP | apply wS | apply wB); exact rfl)
  refine uplace_spec (isI_in ⟨rfl, rfl, rfl, ?_⟩)
  refine uplace_spec (isI_in ⟨rfl, ?_⟩)
  refine condB_split (fun g1 => ?_) (fun g1 => fin _ ?_)
  · repeat ((with_reducible first | apply opt_in | apply wI | apply wT | apply wP | apply wS | apply wB); exact rfl)
    refine uplace_spec (isI_in ⟨rfl, rfl, rfl, ?_⟩)
    refine uplace_spec (isI_in ⟨rfl, fin _ ?_⟩)
    rw [ordB, g1]; rfl
  · rw [ordB, g1]; rfl
end
end Go.Sv
