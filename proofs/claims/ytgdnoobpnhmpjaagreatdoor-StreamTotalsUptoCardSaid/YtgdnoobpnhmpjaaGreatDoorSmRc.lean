/- A text with its counts put right, on both sides; the law of it. -/
import Derived.Test.YtgdnoobpnhmpjaaGreatDoorSmN
import Derived.Test.YtgdnoobpnhmpjaaGreatDoorHk
import Derived.Test.YtgdnoobpnhmpjaaGreatDoorSvT
import Derived.KernelRfl
import Derived.Test.YtgdnoobpnhmpjaaGreatDoorSvV
import Derived.Lib.ItoaLen
import Derived.Test.YtgdnoobpnhmpjaaGreatDoorSmJ
import Derived.Test.YtgdnoobpnhmpjaaGreatDoorSmW
set_option linter.unusedVariables false
set_option linter.unusedSimpArgs false
set_option maxRecDepth 100000
namespace Go.Sv
open Go Go.RowKit Go.Proofs
section
variable {w0 : Base} {σ : Store} {R : AV → Store → Prop}
theorem snum_nil (L : Laid w0.w) (hR : R (.pv (.int .i64 0)) σ) : SCalls (cx w0) selvagelaw28_num.id [.pv (.raw .nilIface)] σ R := by
  refine SCalls.alone L rfl (fun w1 L1 => ?_) rfl hR
  refine selvagelaw28_num.calls ?_
  rw [selvagelaw28_num.b0_eq, eql_raw]
  refine opt_in rfl (opt_in (v := true) rfl (isB_in ?_))
  refine condB_split (fun _ => ?_) (fun h => absurd h (by decide))
  exact fin_keep (Nat.zero_le _) rfl
theorem snum_err (L : Laid w0.w) {n : Int} (hR : R (.pv (.int .i64 n)) σ) : SCalls (cx w0) selvagelaw28_num.id [.pv (.iface 61 (.int .i64 n))] σ R := by
  refine SCalls.alone L rfl (fun w1 L1 => ?_) rfl hR
  refine selvagelaw28_num.calls ?_
  rw [selvagelaw28_num.b0_eq, eql_raw]
  refine opt_in rfl (opt_in (v := false) rfl (isB_in ?_))
  refine condB_split (fun h => absurd h (by decide)) (fun _ => ?_)
  refine opt_in rfl ?_
  refine As_spec (id := 0) L1 rfl (isB_in ?_)
  refine condB_split (fun h => absurd h (by decide)) (fun _ => ?_)
  refine opt_in (v := .pv (.int .i64 n)) rfl (isI_in ?_)
  exact fin_keep (Nat.zero_le _) rfl
end
end Go.Sv
