/- Names in quotes: what both sides answer. -/
import Derived.Test.YtjonnhjaiiingaaGreatDoorFnE
import Derived.Test.YtjonnhjaiiingaaGreatDoorSvV
import Derived.KernelRfl
set_option linter.unusedVariables false
set_option linter.unusedSimpArgs false
set_option maxRecDepth 100000
namespace Go.Sv
open Go Go.RowKit Go.Proofs
theorem range_get {β : Type} {f g : Nat → β} {n : Nat} (h : (List.range n).map f = (List.range n).map g) {k : Nat} (hk : k < n) : f k = g k := by
  have := congrArg (fun l => l[k]?) h
  simpa [hk] using this
end Go.Sv
