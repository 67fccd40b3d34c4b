/- Rows and names that are the same; hunks that are appended to a row. -/
import Derived.Test.YtgdnoobpnhmpjaaGreatDoorHk
set_option linter.unusedVariables false
set_option linter.unusedSimpArgs false
set_option maxRecDepth 100000
namespace Go.Sv
section
open Go Go.RowKit Go.Proofs
variable {w0 : Base} {σ : Store} {R : AV → Store → Prop}
theorem neq_eq {t : TypeId} {ti : TI} {cs : List PV} (ht : tabS t = some ti) (e : aEqT tabS ti false (.pv (.agg cs)) (.pv (.agg cs)) = some true) {k : AV → Prop} (hk : k (.pv (.bool false))) : aBinK tabS t false .neq (.pv (.agg cs)) (.pv (.agg cs)) k := by
  unfold aBinK
  exact opt_in ht (opt_in e hk)
end
end Go.Sv
