/- The law StatCosts, over stores. -/
import Derived.Test.YthkedonibhajbaaGreatDoorCoE
set_option linter.unusedVariables false
set_option linter.unusedSimpArgs false
set_option maxRecDepth 100000
namespace Go.Sv
open Go Go.RowKit Go.Proofs
section
variable {w0 : Base} {σ : Store} {R : AV → Store → Prop}
theorem costs18 {σ : Store} {b : Bool} (hb : b = true) : selvagelaw16_StatCosts.n18 (selvagelaw16_StatCosts.X w0 0) w0 0 (fun r _ => r = .pv (.bool true)) σ b := by
  refine selvagelaw16_StatCosts.n18_in ?_
  rw [selvagelaw16_StatCosts.b18_eq]
  exact fin_keep (Nat.zero_le _) (by rw [hb])
theorem all_of {l : List Hnk} (h : ∀ x ∈ l, validF x = true ∧ HnkOK x) : l.all validF = true ∧ ∀ x ∈ l, HnkOK x :=
  ⟨List.all_eq_true.2 fun x hx => (h x hx).1, fun x hx => (h x hx).2⟩
theorem costs_law (L : Laid w0.w) {s : List Chg} {A B : List (List UInt8)} (hs : s.length ≤ 1048576) (hAB : A.length + B.length ≤ 1048576) (tA : ∀ t ∈ A, t.length ≤ 1048576) (tB : ∀ t ∈ B, t.length ≤ 1048576) (ctx : Int) :
    SCalls (cx w0) selvagelaw16_StatCosts.id [.pv (.agg [.sl (s.map chgP), strsP A, strsP B, .int .i64 ctx])] [] fun r _ => r = .pv (.bool true) := by
  obtain ⟨v, hu, hv, hc⟩ := Build_out hs hAB tA tB ctx
  refine selvagelaw16_StatCosts.calls ?_
  rw [selvagelaw16_StatCosts.b0_eq]
  refine ⟨rfl, ?_⟩
  repeat (first | ((with_reducible show opt _ _); refine opt_in rfl ?_) | ((with_reducible show isI _ _ _); refine isI_in ?_) | ((with_reducible show isTup _ _); refine isTup_in ?_) | ((with_reducible show isS _ _); refine isS_in ?_) | ((with_reducible show isB _ _); refine isB_in ?_))
  refine SCalls.alone L rfl hc hu ?_
  rcases hv with ⟨e, he, rfl⟩ | ⟨ns, hk, g, rfl⟩
  · repeat (first | ((with_reducible show opt _ _); refine opt_in rfl ?_) | ((with_reducible show isI _ _ _); refine isI_in ?_) | ((with_reducible show isTup _ _); refine isTup_in ?_) | ((with_reducible show isS _ _); refine isS_in ?_) | ((with_reducible show isB _ _); refine isB_in ?_))
    rw [condB_ibne, if_neg he]
    exact works_spec L (isB_in (fin_keep (Nat.zero_le _) rfl))
  · obtain ⟨g1, g2⟩ := all_of g.ok
    repeat (first | ((with_reducible show opt _ _); refine opt_in rfl ?_) | ((with_reducible show isI _ _ _); refine isI_in ?_) | ((with_reducible show isTup _ _); refine isTup_in ?_) | ((with_reducible show isS _ _); refine isS_in ?_) | ((with_reducible show isB _ _); refine isB_in ?_))
    rw [condB_ibne, if_pos rfl]
    refine Of_spec L g.len g2 ?_
    have e : outOP [120] (ofR hk) = .tup [cntA [120] (summ ns : Nat) (sumn ns : Nat), .pv (.raw .nilIface)] := by
      unfold ofR
      rw [if_pos g1, g.add, g.del]
      have h1 := g.sumN
      have h2 := g.sumM
      simp only [outOP, outO]
      rw [if_neg (by omega)]
    rw [e]
    repeat (first | ((with_reducible show opt _ _); refine opt_in rfl ?_) | ((with_reducible show isI _ _ _); refine isI_in ?_) | ((with_reducible show isTup _ _); refine isTup_in ?_) | ((with_reducible show isS _ _); refine isS_in ?_) | ((with_reducible show isB _ _); refine isB_in ?_))
    rw [g.same]
    refine Cost_spec L ?_ (by have := g.sumN; omega) (by have := g.sumM; omega) ?_
    · have := congrArg List.length g.same
      rw [List.length_map, List.length_map] at this
      omega
    repeat (first | ((with_reducible show opt _ _); refine opt_in rfl ?_) | ((with_reducible show isI _ _ _); refine isI_in ?_) | ((with_reducible show isTup _ _); refine isTup_in ?_) | ((with_reducible show isS _ _); refine isS_in ?_) | ((with_reducible show isB _ _); refine isB_in ?_))
    rw [eql_raw]
    refine opt_in rfl (opt_in (v := true) rfl (isB_in ?_))
    refine condB_split (fun _ => ?_) (fun h => absurd h (by decide))
    repeat (first | ((with_reducible show opt _ _); refine opt_in rfl ?_) | ((with_reducible show isI _ _ _); refine isI_in ?_) | ((with_reducible show isTup _ _); refine isTup_in ?_) | ((with_reducible show isS _ _); refine isS_in ?_) | ((with_reducible show isB _ _); refine isB_in ?_))
    rw [condB_sbeq, if_pos rfl]
    repeat (first | ((with_reducible show opt _ _); refine opt_in rfl ?_) | ((with_reducible show isI _ _ _); refine isI_in ?_) | ((with_reducible show isTup _ _); refine isTup_in ?_) | ((with_reducible show isS _ _); refine isS_in ?_) | ((with_reducible show isB _ _); refine isB_in ?_))
    rw [condB_ibeq, if_pos rfl]
    repeat (first | ((with_reducible show opt _ _); refine opt_in rfl ?_) | ((with_reducible show isI _ _ _); refine isI_in ?_) | ((with_reducible show isTup _ _); refine isTup_in ?_) | ((with_reducible show isS _ _); refine isS_in ?_) | ((with_reducible show isB _ _); refine isB_in ?_))
    rw [condB_ibeq, if_pos rfl]
    exact works_spec L (isB_in (costs18 rfl))
end
open Go.Proofs.YthkedonibhajbaaGreatDoor in
theorem chg_list : ∀ xs : List PV, (∀ x ∈ xs, hasT tabS 10 48 x) → ∃ l : List Chg, xs = l.map chgP
  | [], _ => ⟨[], rfl⟩
  | x :: r, h => by
    obtain ⟨l, rfl⟩ := chg_list r fun y hy => h y (List.mem_cons_of_mem _ hy)
    obtain ⟨qs, rfl, g⟩ := hasT_struct tab48 ti48_td (h x (by simp))
    clear h
    obtain ⟨_, qs, rfl, h1, h⟩ := fields_cons g
    obtain ⟨_, qs, rfl, h2, h⟩ := fields_cons h
    obtain ⟨_, qs, rfl, h3, h⟩ := fields_cons h
    obtain ⟨_, qs, rfl, h4, h⟩ := fields_cons h
    obtain rfl := fields_nil h
    obtain ⟨a, rfl, _⟩ := hasT_int tab3 ti3_td h1
    obtain ⟨n, rfl, _⟩ := hasT_int tab3 ti3_td h2
    obtain ⟨b, rfl, _⟩ := hasT_int tab3 ti3_td h3
    obtain ⟨m, rfl, _⟩ := hasT_int tab3 ti3_td h4
    exact ⟨⟨a, n, b, m⟩ :: l, rfl⟩
open Go.Proofs.YthkedonibhajbaaGreatDoor in
theorem str_list : ∀ xs : List PV, (∀ x ∈ xs, hasT tabS 10 9 x) → ∃ l : List (List UInt8), xs = l.map PV.str
  | [], _ => ⟨[], rfl⟩
  | x :: r, h => by
    obtain ⟨l, rfl⟩ := str_list r fun y hy => h y (List.mem_cons_of_mem _ hy)
    obtain ⟨s, rfl, _⟩ := hasT_str tab9 ti9_td (h x (by simp))
    exact ⟨s :: l, rfl⟩
theorem strs_bulk : ∀ l : List (List UInt8), l.length ≤ pvBs (l.map PV.str) ∧ ∀ t ∈ l, t.length ≤ pvBs (l.map PV.str)
  | [] => ⟨Nat.zero_le _, fun x h => by simp at h⟩
  | c :: r => by
    obtain ⟨h1, h2⟩ := strs_bulk r
    simp only [List.map_cons, pvBs, pvB, List.length_cons]
    refine ⟨by omega, fun x hx => ?_⟩
    rcases List.mem_cons.1 hx with rfl | hx
    · omega
    · have := h2 x hx; omega
theorem chgs_bulk : ∀ l : List Chg, l.length ≤ pvBs (l.map chgP)
  | [] => Nat.zero_le _
  | c :: r => by
    have := chgs_bulk r
    simp only [List.map_cons, pvBs, pvB, List.length_cons]
    omega
open Go.Proofs.YthkedonibhajbaaGreatDoor in
theorem StatCosts_spec {w0 : Base} (L : Laid w0.w) {H : Type} {d0 : DataW H} {ds : List (DataW H)} (hT : hasT tabS 12 25 (toPV d0)) (hk : Rows.uptoSmall H (d0 :: ds) = true) : SCalls (cx w0) selvagelaw16_StatCosts.id [.pv (toPV d0)] [] fun r _ => r = .pv (.bool true) := by
  obtain ⟨qs, e, h⟩ := hasT_struct tab25 ti25_td hT
  obtain ⟨_, qs, rfl, h1, h⟩ := fields_cons h
  obtain ⟨_, qs, rfl, h2, h⟩ := fields_cons h
  obtain ⟨_, qs, rfl, h3, h⟩ := fields_cons h
  obtain ⟨_, qs, rfl, h4, h⟩ := fields_cons h
  obtain rfl := fields_nil h
  obtain ⟨xs, rfl, hx⟩ := hasT_slice tab22 ti22_td h1
  obtain ⟨ys, rfl, hy⟩ := hasT_slice tab23 ti23_td h2
  obtain ⟨zs, rfl, hz⟩ := hasT_slice tab23 ti23_td h3
  obtain ⟨ctx, rfl, _⟩ := hasT_int tab3 ti3_td h4
  obtain ⟨s, rfl⟩ := chg_list xs hx
  obtain ⟨A, rfl⟩ := str_list ys hy
  obtain ⟨B, rfl⟩ := str_list zs hz
  have hb : Rows.uptoBulkAll (d0 :: ds) ≤ 1048576 := of_decide_eq_true hk
  have h0 := pvB_le d0
  simp only [Rows.uptoBulkAll] at hb
  have e' : toPV d0 = .agg [.sl (s.map chgP), strsP A, strsP B, .int .i64 ctx] := e
  rw [e'] at h0
  simp only [pvB, pvBs] at h0
  obtain ⟨a1, a2⟩ := strs_bulk A
  obtain ⟨b1, b2⟩ := strs_bulk B
  have c1 := chgs_bulk s
  rw [e']
  exact costs_law L (by omega) (by omega) (fun t ht => by have := a2 t ht; omega) (fun t ht => by have := b2 t ht; omega) ctx
end Go.Sv
