/- The laws UnifiedBack and UnifiedRest over stores. -/
import Derived.Test.YtjonnhjaiiingaaGreatDoorUnY
import Derived.Test.YtjonnhjaiiingaaGreatDoorUnR
import Derived.Test.YtjonnhjaiiingaaGreatDoorUnF
import Derived.Test.YtjonnhjaiiingaaGreatDoorUnW
set_option linter.unusedVariables false
set_option linter.unusedSimpArgs false
set_option maxRecDepth 100000
namespace Go.Sv
open Go Go.RowKit Go.Proofs
section
variable {w0 : Base} {σ : Store} {R : AV → Store → Prop}
theorem eq_name (p s : Ln) : aEqT tabS ti23 false (.pv (nmP p s)) (.pv (nmP p s)) = some true := by
  have h : aEqT tabS ti23 false (.pv (nmP p s)) (.pv (nmP p s)) = some ((p == p) && ((s == s) && true)) := rfl
  rw [h]; simp
theorem eql_name {p s : Ln} {k : AV → Prop} (hk : k (.pv (.bool true))) : aBinK tabS 23 false .eql (.pv (nmP p s)) (.pv (nmP p s)) k := by
  show opt (tabS 23) fun ti => opt (aEqT tabS ti false (.pv (nmP p s)) (.pv (nmP p s))) fun b => k (.pv (.bool b))
  exact opt_in rfl (opt_in (eq_name p s) hk)
theorem rest39 {σ : Store} (t : Bool) (ht : t = true) : selvagelaw11_UnifiedRest.n39 (selvagelaw11_UnifiedRest.X w0 0) w0 0 (fun r' _ => r' = .pv (.bool true)) σ t := by
  refine selvagelaw11_UnifiedRest.n39_in ?_
  rw [selvagelaw11_UnifiedRest.b39_eq, ht]
  exact fin_keep (Nat.zero_le _) rfl
theorem rest35 (L : Laid w0.w) {p s p' s' : Ln} {l : List Hnk} {x y : Ln} (hl : l.length ≤ 1048576) (hr : ∀ x ∈ l, x.rows.length ≤ 1048576) (hx : (x ++ y).length ≤ 4194304)
    (h : ∃ r, parseF (x ++ y) = some (⟨(p, s), (p', s'), l, r⟩, y)) :
    selvagelaw11_UnifiedRest.n35 (selvagelaw11_UnifiedRest.X w0 0) w0 0 (fun r' _ => r' = .pv (.bool true)) [nmO p s, nmO p' s'] x y (.ptr 0 0) (.ptr 1 0) (hnksA l) := by
  obtain ⟨r, h⟩ := h
  refine selvagelaw11_UnifiedRest.n35_in ?_
  rw [selvagelaw11_UnifiedRest.b35_eq]
  refine ⟨by rw [List.length_append] at hx; omega, ?_⟩
  refine Parse_spec L (by omega) (fun w hw => ?_)
  unfold parseOut at hw
  rw [h] at hw
  simp only at hw
  subst hw
  repeat ((with_reducible first | apply opt_in | apply wI | apply wT | apply wP | apply wS | apply wB); exact rfl)
  rw [eql_raw]
  refine opt_in rfl (opt_in (v := true) rfl (isB_in ?_))
  rw [condB_true']
  repeat ((with_reducible first | apply opt_in | apply wI | apply wT | apply wP | apply wS | apply wB); exact rfl)
  refine eql_name (isB_in ?_)
  rw [condB_true']
  repeat ((with_reducible first | apply opt_in | apply wI | apply wT | apply wP | apply wS | apply wB); exact rfl)
  refine eql_name (isB_in ?_)
  rw [condB_true']
  refine same_spec L hl hr (isB_in ?_)
  rw [condB_true', condB_sbeq, if_pos rfl]
  exact sure_spec L (isB_in (rest39 _ rfl))
theorem rest_round (L : Laid w0.w) {p s p' s' : Ln} {l : List Hnk} {x y q : Ln} {k : Nat} (hk : k < 2) (hq : ([.str [64, 64, 32, 45], .str [92]] : List PV)[k]? = some (.str q))
    (next : Lib.hasPrefix y q = false → selvagelaw11_UnifiedRest.n16 (selvagelaw11_UnifiedRest.X w0 0) w0 0 (fun r' _ => r' = .pv (.bool true)) [nmO p s, nmO p' s'] x y (.ptr 0 0) (.ptr 1 0) (hnksA l) (.pv (.sl [.str [64, 64, 32, 45], .str [92]])) 2 ((k + 1 : Nat) : Int)) :
    selvagelaw11_UnifiedRest.n16 (selvagelaw11_UnifiedRest.X w0 0) w0 0 (fun r' _ => r' = .pv (.bool true)) [nmO p s, nmO p' s'] x y (.ptr 0 0) (.ptr 1 0) (hnksA l) (.pv (.sl [.str [64, 64, 32, 45], .str [92]])) 2 (k : Int) := by
  have key : ∀ t, t = Lib.hasPrefix y q → selvagelaw11_UnifiedRest.n29 (selvagelaw11_UnifiedRest.X w0 0) w0 0 (fun r' _ => r' = .pv (.bool true)) [nmO p s, nmO p' s'] x y (.ptr 0 0) (.ptr 1 0) (hnksA l) (.pv (.sl [.str [64, 64, 32, 45], .str [92]])) 2 (k : Int) t := by
    intro t ht
    refine selvagelaw11_UnifiedRest.n29_in ?_
    rw [selvagelaw11_UnifiedRest.b29_eq]
    refine condB_split (fun g => ?_) (fun g => ?_)
    · exact sure_spec L (isB_in (fin_keep (Nat.zero_le _) rfl))
    · rw [wrap_next hk (by omega)]
      exact next (by rw [← ht, g])
  have hpre : ∀ z : Ln, Lib.hasPrefix y z = (decide (z.length ≤ y.length) && (y.take z.length == z)) := by
    intro z
    rw [Bool.eq_iff_iff, Bool.and_eq_true, decide_eq_true_eq, beq_iff_eq]
    constructor
    · intro h
      obtain ⟨t, rfl⟩ := List.isPrefixOf_iff_prefix.1 h
      exact ⟨by rw [List.length_append]; omega, by simp⟩
    · rintro ⟨h1, h2⟩
      have h3 := List.take_append_drop z.length y
      rw [h2] at h3
      exact List.isPrefixOf_iff_prefix.2 ⟨_, h3⟩
  refine selvagelaw11_UnifiedRest.n16_in ?_
  rw [selvagelaw11_UnifiedRest.b17_eq, condB_decide, if_pos (by omega)]
  refine opt_in (idx_ro tab9 hq rfl) ?_
  repeat ((with_reducible first | apply opt_in | apply wI | apply wT | apply wP | apply wS | apply wB); exact rfl)
  rw [condB_decide]
  refine ite_split (fun g => ?_) (fun g => key _ ?_)
  · refine opt_in (slice_take (by omega)) (isS_in (key _ ?_))
    rw [hpre, decide_eq_true (by omega), Bool.true_and]
  · rw [hpre, decide_eq_false (by omega), Bool.false_and]
theorem rest7 (L : Laid w0.w) {p s p' s' : Ln} {l : List Hnk} {x y : Ln} {t : Bool} (hl : l.length ≤ 1048576) (hr : ∀ x ∈ l, x.rows.length ≤ 1048576)
    (h : t = false → (x ++ y).length ≤ 4194304 ∧ (Lib.hasPrefix y [64, 64, 32, 45] = false → Lib.hasPrefix y [92] = false → ∃ r, parseF (x ++ y) = some (⟨(p, s), (p', s'), l, r⟩, y))) :
    selvagelaw11_UnifiedRest.n7 (selvagelaw11_UnifiedRest.X w0 0) w0 0 (fun r' _ => r' = .pv (.bool true)) [nmO p s, nmO p' s'] x y (.ptr 0 0) (.ptr 1 0) (hnksA l) t := by
  refine selvagelaw11_UnifiedRest.n7_in ?_
  rw [selvagelaw11_UnifiedRest.b7_eq]
  refine condB_split (fun g => ?_) (fun g => ?_)
  · exact sure_spec L (isB_in (fin_keep (Nat.zero_le _) rfl))
  · obtain ⟨h1, h2⟩ := h g
    refine opt2_in (v := .pv (.sl [.str [64, 64, 32, 45], .str [92]])) rfl ?_
    refine opt_in (v := .pv (.int .i64 2)) rfl (isI_in ?_)
    refine rest_round (k := 0) L (by omega) rfl (fun g1 => ?_)
    refine rest_round (k := 1) L (by omega) rfl (fun g2 => ?_)
    refine selvagelaw11_UnifiedRest.n16_in ?_
    rw [selvagelaw11_UnifiedRest.b17_eq, condB_decide, if_neg (by omega)]
    exact rest35 L hl hr h1 (h2 g1 g2)
theorem rest_law (L : Laid w0.w) {x y : Ln} (hx : x.length ≤ 1048576) (hy : y.length ≤ 1048576) : SCalls (cx w0) selvagelaw11_UnifiedRest.id [.pv (.str x), .pv (.str y)] [] fun r _ => r = .pv (.bool true) := by
  refine selvagelaw11_UnifiedRest.calls ?_
  rw [selvagelaw11_UnifiedRest.b0_eq]
  refine Parse_spec L (by omega) (fun w hw => ?_)
  unfold parseOut at hw
  cases hp : parseF x with
  | none =>
    rw [hp] at hw
    obtain ⟨n, e, rfl⟩ := hw
    repeat ((with_reducible first | apply opt_in | apply wI | apply wT | apply wP | apply wS | apply wB); exact rfl)
    rw [neq_raw]
    refine opt_in rfl (opt_in (v := false) rfl (isB_in ?_))
    rw [Bool.not_false, condB_true']
    exact rest7 (l := []) L (Nat.zero_le _) (fun x hx => by cases hx) (fun e => by cases e)
  | some q =>
    obtain ⟨⟨⟨p, s⟩, ⟨p', s'⟩, l, r⟩, rest⟩ := q
    rw [hp] at hw
    simp only at hw
    subst hw
    obtain ⟨⟨o1, o2⟩, o3, o4, o5, o6, o7⟩ := parse_out hx hp
    simp only at o1 o2 o3 o4 o5 o6 o7
    have hr := fun x hx => (o4 x hx).2.rows
    repeat ((with_reducible first | apply opt_in | apply wI | apply wT | apply wP | apply wS | apply wB); exact rfl)
    rw [neq_raw]
    refine opt_in rfl (opt_in (v := true) rfl (isB_in ?_))
    rw [Bool.not_true, condB_false', condB_not, condB_sbeq]
    refine ite_split (fun g => ?_) (fun g => ?_)
    · subst g
      have hne : x ≠ [] := fun e => by
        have h0 : parseF ([] : Ln) = none := rfl
        rw [e, h0] at hp; cases hp
      obtain ⟨x0, c, rfl⟩ : ∃ x0 c, x = x0 ++ [c] := by
        rcases List.eq_nil_or_concat x with e | ⟨x0, c, e⟩
        · exact absurd e hne
        · exact ⟨x0, c, by rw [e, List.concat_eq_append]⟩
      have hxl : (x0 ++ [c]).length = x0.length + 1 := by simp
      have wl : IntKind.wrap .i64 ((((x0 ++ [c]).length : Nat) : Int) - 1) = (x0.length : Int) := by rw [hxl, wrap_i64 (by omega) (by omega)]; omega
      have hget : (x0 ++ [c])[x0.length]? = some c := by simp
      rw [wl]
      refine opt_in (idx_str hget) (isI_in ?_)
      rw [condB_ibne]
      refine ite_split (fun g2 => ?_) (fun g2 => ?_)
      · have hc : c = 10 := UInt8.toNat_inj.1 (by have : UInt8.toNat 10 = 10 := rfl; omega)
        have hw : wholeB (x0 ++ [c]) = true := by unfold wholeB; rw [hc]; simp
        rw [wrap_i64 (n := (((x0 ++ [c]).length : Nat) : Int) + (y.length : Int)) (by omega) (by omega)]
        generalize hb : decide ((((x0 ++ [c]).length : Nat) : Int) + (y.length : Int) > 4194304) = b
        refine rest7 L o7 hr (fun e => ?_)
        rw [e] at hb
        have hb := of_decide_eq_false hb
        have hl : ((x0 ++ [c]) ++ y).length ≤ 4194304 := by rw [List.length_append]; omega
        exact ⟨hl, fun e1 e2 => parse_more hp hw hl e1 e2⟩
      · exact rest7 L o7 hr (fun e => by cases e)
    · exact rest7 L o7 hr (fun e => by cases e)
open Go.Proofs.YtjonnhjaiiingaaGreatDoor in
theorem UnifiedRest_spec {w0 : Base} (L : Laid w0.w) {H : Type} {d0 d1 : DataW H} {ds : List (DataW H)} (hT : hasT tabS 12 9 (toPV d0)) (hU : hasT tabS 12 9 (toPV d1)) (hk : Rows.uptoSmall H (d0 :: d1 :: ds) = true) : SCalls (cx w0) selvagelaw11_UnifiedRest.id [.pv (toPV d0), .pv (toPV d1)] [] fun r _ => r = .pv (.bool true) := by
  obtain ⟨x, e, _⟩ := hasT_str tab9 ti9_td hT
  obtain ⟨y, e', _⟩ := hasT_str tab9 ti9_td hU
  have hb : Rows.uptoBulkAll (d0 :: d1 :: ds) ≤ 1048576 := of_decide_eq_true hk
  have h0 := pvB_le d0
  have h1 := pvB_le d1
  simp only [Rows.uptoBulkAll] at hb
  rw [e] at h0
  rw [e'] at h1
  simp only [pvB, pvBs] at h0 h1
  rw [e, e']
  exact rest_law L (by omega) (by omega)
end
end Go.Sv
