/- Hunks that a machine holds: a statement's data as hunks, and their bulk. -/
import Derived.Test.YtjonnhjaiiingaaGreatDoorHk
import Derived.Test.YtjonnhjaiiingaaGreatDoorSvBk
set_option linter.unusedVariables false
set_option linter.unusedSimpArgs false
set_option maxRecDepth 100000
namespace Go.Sv
open Go Go.RowKit Go.Proofs
structure HnkOK (h : Hnk) : Prop where
  rows : h.rows.length ≤ 1048576
  text : ∀ x ∈ h.rows, x.t.length ≤ 1048576
  head : h.head.length ≤ 1048576
  a : -9223372036854775808 ≤ h.a ∧ h.a ≤ 9223372036854775807
  b : -9223372036854775808 ≤ h.b ∧ h.b ≤ 9223372036854775807
end Go.Sv
