/- The document's answer for a file's text; the law UnifiedPrints. -/
import Derived.Test.YtjonnhjaiiingaaGreatDoorUnG
set_option linter.unusedVariables false
set_option linter.unusedSimpArgs false
set_option maxRecDepth 100000
namespace Go.Sv
section
open Go Go.RowKit Go.Proofs
variable {w0 : Base} {σ : Store} {R : AV → Store → Prop}
theorem num11_nil (L : Laid w0.w) (hR : R (.pv (.int .i64 0)) σ) : SCalls (cx w0) selvagelaw11_num.id [.pv (.raw .nilIface)] σ R := by
  refine SCalls.alone L rfl (fun w1 L1 => ?_) rfl hR
  refine selvagelaw11_num.calls ?_
  rw [selvagelaw11_num.b0_eq, eql_raw]
  refine opt_in rfl (opt_in (v := true) rfl (isB_in ?_))
  rw [condB_true']
  exact fin_keep (Nat.zero_le _) rfl
theorem num11_err (L : Laid w0.w) {n : Int} (hR : R (.pv (.int .i64 n)) σ) : SCalls (cx w0) selvagelaw11_num.id [.pv (.iface 50 (.int .i64 n))] σ R := by
  refine SCalls.alone L rfl (fun w1 L1 => ?_) rfl hR
  refine selvagelaw11_num.calls ?_
  rw [selvagelaw11_num.b0_eq, eql_raw]
  refine opt_in rfl (opt_in (v := false) rfl (isB_in ?_))
  rw [condB_false']
  refine opt_in rfl ?_
  refine As_spec L1 (id := 0) rfl (isB_in ?_)
  rw [condB_true']
  repeat ((with_reducible first | apply opt_in | apply wI | apply wT | apply wP | apply wS | apply wB); exact rfl)
  exact fin_keep (Nat.zero_le _) rfl
theorem num11 (L : Laid w0.w) {n : Int} (hR : R (.pv (.int .i64 n)) σ) : SCalls (cx w0) selvagelaw11_num.id [errA n] σ R := by
  unfold errA
  split
  · rename_i h
    rw [h] at hR
    exact num11_nil L hR
  · exact num11_err L hR
open Go.Proofs.YtjonnhjaiiingaaGreatDoor in
theorem name_data {d : Nat} {q : PV} (h : hasT tabS (d + 2) 23 q) : ∃ p s, q = nmP p s := by
  obtain ⟨qs, rfl, g⟩ := hasT_struct tab23 ti23_td h
  obtain ⟨_, qs, rfl, h1, h⟩ := fields_cons g
  obtain ⟨_, qs, rfl, h2, h⟩ := fields_cons h
  obtain rfl := fields_nil h
  obtain ⟨p, rfl, _⟩ := hasT_str tab9 ti9_td h1
  obtain ⟨s, rfl, _⟩ := hasT_str tab9 ti9_td h2
  exact ⟨p, s, rfl⟩
end
end Go.Sv
