/- The law StatBars, over stores. -/
import Derived.Test.YthkedonibhajbaaDoorStC
import Derived.Test.YthkedonibhajbaaDoorStA
import Derived.Test.YthkedonibhajbaaDoorSvZ
set_option linter.unusedVariables false
set_option maxRecDepth 100000
namespace Go.Sv
open Go Go.Proofs
theorem StatBars_spec {w0 : Base} (L : Laid w0.w) {p : PV} (hT : hasT tabS 12 23 p) : SCalls (cx w0) selvagelaw16_StatBars.id [.pv p] [] fun r _ => r = .pv (.bool true) := by
  obtain ⟨qs, rfl, h⟩ := hasT_struct tab23 ti23_td hT
  obtain ⟨_, qs, rfl, h1, h⟩ := fields_cons h
  obtain ⟨_, qs, rfl, h2, h⟩ := fields_cons h
  obtain ⟨_, qs, rfl, h3, h⟩ := fields_cons h
  obtain ⟨_, qs, rfl, h4, h⟩ := fields_cons h
  obtain rfl := fields_nil h
  obtain ⟨a, rfl, _⟩ := hasT_int tab3 ti3_td h1
  obtain ⟨d, rfl, _⟩ := hasT_int tab3 ti3_td h2
  obtain ⟨w, rfl, _⟩ := hasT_int tab3 ti3_td h3
  obtain ⟨m, rfl, _⟩ := hasT_int tab3 ti3_td h4
  refine selvagelaw16_StatBars.calls ?_
  rw [selvagelaw16_StatBars.b0_eq]
  refine ⟨rfl, ?_⟩
  repeat (first | ((with_reducible show opt _ _); refine opt_in rfl ?_) | ((with_reducible show isI _ _ _); refine isI_in ?_) | ((with_reducible show isTup _ _); refine isTup_in ?_))
  refine progBar_spec L ?_
  rw [pro_ref]
  repeat (first | ((with_reducible show opt _ _); refine opt_in rfl ?_) | ((with_reducible show isI _ _ _); refine isI_in ?_) | ((with_reducible show isTup _ _); refine isTup_in ?_))
  refine refBar_spec ?_
  repeat (first | ((with_reducible show opt _ _); refine opt_in rfl ?_) | ((with_reducible show isI _ _ _); refine isI_in ?_) | ((with_reducible show isTup _ _); refine isTup_in ?_))
  rw [condB_ibeq, if_pos rfl, condB_ibeq, if_pos rfl]
  exact works_spec L (isB_in (fin_keep (Nat.zero_le _) rfl))
end Go.Sv
