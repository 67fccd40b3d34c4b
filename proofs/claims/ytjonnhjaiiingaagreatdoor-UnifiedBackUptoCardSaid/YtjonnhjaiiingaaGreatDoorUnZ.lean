/- The laws UnifiedBack and UnifiedRest over stores. -/
import Derived.Test.YtjonnhjaiiingaaGreatDoorUnY
import Derived.Test.YtjonnhjaiiingaaGreatDoorUnR
import Derived.Test.YtjonnhjaiiingaaGreatDoorUnH
set_option linter.unusedVariables false
set_option linter.unusedSimpArgs false
set_option maxRecDepth 100000
namespace Go.Sv
open Go Go.RowKit Go.Proofs
section
variable {w0 : Base} {σ : Store} {R : AV → Store → Prop}
theorem eq_name (p s : Ln) : aEqT tabS ti23 false (.pv (nmP p s)) (.pv (nmP p s)) = some true := by
  have h : aEqT tabS ti23 false (.pv (nmP p s)) (.pv (nmP p s)) = some ((p == p) && ((s == s) && true)) := rfl
  rw [h]; simp
theorem neq_name {p s : Ln} {k : AV → Prop} (hk : k (.pv (.bool false))) : aBinK tabS 23 false .neq (.pv (nmP p s)) (.pv (nmP p s)) k := neq_eq rfl (eq_name p s) hk
theorem eql_name {p s : Ln} {k : AV → Prop} (hk : k (.pv (.bool true))) : aBinK tabS 23 false .eql (.pv (nmP p s)) (.pv (nmP p s)) k := by
  show opt (tabS 23) fun ti => opt (aEqT tabS ti false (.pv (nmP p s)) (.pv (nmP p s))) fun b => k (.pv (.bool b))
  exact opt_in rfl (opt_in (eq_name p s) hk)
theorem back44 {σ : Store} (t : Bool) (ht : t = true) : selvagelaw11_UnifiedBack.n44 (selvagelaw11_UnifiedBack.X w0 0) w0 0 (fun r' _ => r' = .pv (.bool true)) σ t := by
  refine selvagelaw11_UnifiedBack.n44_in ?_
  rw [selvagelaw11_UnifiedBack.b44_eq, ht]
  exact fin_keep (Nat.zero_le _) rfl
abbrev bkS (c : List AV) (a b : SObj) : Store := [.cells 42 c, a, b]
theorem back35 (L : Laid w0.w) {c : List AV} {a b : SObj} {B : Store} (hB : B = bkS c a b ∨ ∃ p s p' s', B = bkS c a b ++ [nmO p s, nmO p' s']) {p s p' s' : Ln} {l : List Hnk} {u : Ln} {g : AV} {t : Bool} (hl : l.length ≤ 1048576) (hr : ∀ x ∈ l, x.rows.length ≤ 1048576)
    (h : t = false → u.length ≤ 4194304 ∧ g = .pv (.raw .nilIface) ∧ ∃ r, parseF u = some (⟨(p, s), (p', s'), l, r⟩, [])) :
    selvagelaw11_UnifiedBack.n35 (selvagelaw11_UnifiedBack.X w0 0) w0 0 (fun r' _ => r' = .pv (.bool true)) (B ++ [nmO p s, nmO p' s']) (.ptr B.length 0) (.ptr (B.length + 1) 0) (hnksA l) u g t := by
  refine selvagelaw11_UnifiedBack.n35_in ?_
  rw [selvagelaw11_UnifiedBack.b35_eq]
  refine condB_split (fun g1 => ?_) (fun g1 => ?_)
  · exact sure_spec L (isB_in (fin_keep (Nat.zero_le _) rfl))
  · obtain ⟨h1, rfl, r, h3⟩ := h g1
    refine Parse_spec L (by omega) (fun w hw => ?_)
    unfold parseOut at hw
    rw [h3] at hw
    simp only at hw
    subst hw
    rcases hB with rfl | ⟨q, z, q', z', rfl⟩
    all_goals
      repeat ((with_reducible first | apply opt_in | apply wI | apply wT | apply wP | apply wS | apply wB); exact rfl)
      rw [eql_raw]
      refine opt_in rfl (opt_in (v := true) rfl (isB_in ?_))
      rw [condB_true', eql_raw]
      refine opt_in rfl (opt_in (v := true) rfl (isB_in ?_))
      rw [condB_true']
      repeat ((with_reducible first | apply opt_in | apply wI | apply wT | apply wP | apply wS | apply wB); exact rfl)
      refine eql_name (isB_in ?_)
      rw [condB_true']
      repeat ((with_reducible first | apply opt_in | apply wI | apply wT | apply wP | apply wS | apply wB); exact rfl)
      refine eql_name (isB_in ?_)
      rw [condB_true']
      refine same_spec L hl hr (isB_in ?_)
      rw [condB_true', condB_sbeq, if_pos rfl]
      exact sure_spec L (isB_in (back44 _ rfl))
theorem back28 {σ : Store} (t : Bool) (ht : t = true) : selvagelaw11_UnifiedBack.n28 (selvagelaw11_UnifiedBack.X w0 0) w0 0 (fun r' _ => r' = .pv (.bool true)) σ t := by
  refine selvagelaw11_UnifiedBack.n28_in ?_
  rw [selvagelaw11_UnifiedBack.b28_eq, ht]
  exact fin_keep (Nat.zero_le _) rfl
theorem back20 (L : Laid w0.w) {c : List AV} {a b : SObj} {B : Store} (hB : B = bkS c a b ∨ ∃ p s p' s', B = bkS c a b ++ [nmO p s, nmO p' s']) {x : Ln} (hx : x.length ≤ 1048576) :
    selvagelaw11_UnifiedBack.n20 (selvagelaw11_UnifiedBack.X w0 0) w0 0 (fun r' _ => r' = .pv (.bool true)) B x := by
  refine selvagelaw11_UnifiedBack.n20_in ?_
  rw [selvagelaw11_UnifiedBack.b20_eq]
  refine Parse_spec L (by omega) (fun w hw => ?_)
  unfold parseOut at hw
  have hB' := hB
  cases hp : parseF x with
  | none =>
    rw [hp] at hw
    obtain ⟨n, e, rfl⟩ := hw
    rcases hB with rfl | ⟨q, z, q', z', rfl⟩
    all_goals
      repeat ((with_reducible first | apply opt_in | apply wI | apply wT | apply wP | apply wS | apply wB); exact rfl)
      rw [neq_raw]
      refine opt_in rfl (opt_in (v := false) rfl (isB_in ?_))
      rw [Bool.not_false, condB_true']
      repeat ((with_reducible first | apply opt_in | apply wI | apply wT | apply wP | apply wS | apply wB); exact rfl)
      rw [condB_ibeq]
      refine ite_split (fun _ => ?_) (fun g => absurd rfl g)
      exact sure_spec L (isB_in (back28 _ rfl))
  | some y =>
    obtain ⟨⟨⟨p, s⟩, ⟨p', s'⟩, l, r⟩, rest⟩ := y
    rw [hp] at hw
    simp only at hw
    subst hw
    obtain ⟨⟨o1, o2⟩, o3, o4, o5, o6, o7⟩ := parse_out hx hp
    simp only at o1 o2 o3 o4 o5 o6 o7
    have o : PrOK p s p' s' l := ⟨by omega, by omega, by omega, by omega, o7, fun h hh => (o4 h hh).2, o6⟩
    have hall : l.all validF = true := List.all_eq_true.2 fun h hh => (o4 h hh).1
    have hf : faultN p s p' s' l = if (nameOKB p s && nameOKB p' s') = false then 110 else 0 := by
      unfold faultN; rw [hall, o5]; rfl
    rcases hB with rfl | ⟨q, z, q', z', rfl⟩
    all_goals
      repeat ((with_reducible first | apply opt_in | apply wI | apply wT | apply wP | apply wS | apply wB); exact rfl)
      rw [neq_raw]
      refine opt_in rfl (opt_in (v := true) rfl (isB_in ?_))
      rw [Bool.not_true, condB_false']
      repeat ((with_reducible first | apply opt_in | apply wI | apply wT | apply wP | apply wS | apply wB); exact rfl)
      refine Print_spec L o ?_
      unfold printOut
      repeat ((with_reducible first | apply opt_in | apply wI | apply wT | apply wP | apply wS | apply wB); exact rfl)
      refine num11 L (isI_in ?_)
      rw [condB_ibeq]
      refine ite_split (fun g => ?_) (fun g => ?_)
      · exact back35 L hB' (t := true) o7 (fun x hx => (o4 x hx).2.rows) (fun e => by cases e)
      · refine back35 L hB' o7 (fun x hx => (o4 x hx).2.rows) (fun e => ?_)
        have hok : (nameOKB p s && nameOKB p' s') = true := by
          rw [hf] at g
          cases h : nameOKB p s && nameOKB p' s' with
          | true => rfl
          | false => rw [h] at g; exact absurd rfl g
        have h0 : faultN p s p' s' l = 0 := by rw [hf, hok]; rfl
        rw [h0] at e ⊢
        simp only [if_true, decide_eq_false_iff_not] at e ⊢
        rw [Bool.and_eq_true] at hok
        have hlen : (printF p s p' s' l).length ≤ 4194304 := by omega
        exact ⟨hlen, rfl, _, parse_print hok.1 hok.2 o4 o5 o3 hlen⟩
theorem back14 (L : Laid w0.w) {c : List AV} {a b : SObj} {p s p' s' : Ln} {x : Ln} (hx : x.length ≤ 1048576) (t : Bool) (ht : t = false) :
    selvagelaw11_UnifiedBack.n14 (selvagelaw11_UnifiedBack.X w0 0) w0 0 (fun r' _ => r' = .pv (.bool true)) (bkS c a b ++ [nmO p s, nmO p' s']) x t := by
  refine selvagelaw11_UnifiedBack.n14_in ?_
  rw [selvagelaw11_UnifiedBack.b14_eq, ht, condB_false']
  exact back20 L (.inr ⟨p, s, p', s', rfl⟩) hx
theorem back_law (L : Laid w0.w) {p s p' s' : Ln} {l : List Hnk} {x : Ln} (o : PrOK p s p' s' l) (hx : x.length ≤ 1048576) :
    SCalls (cx w0) selvagelaw11_UnifiedBack.id [.pv (.agg [.str p, .str s, .str p', .str s', .sl (l.map hnkP), .str x])] [] fun r _ => r = .pv (.bool true) := by
  have hrows : ∀ x ∈ l, x.rows.length ≤ 1048576 := fun x hx => (o.ok x hx).rows
  have key : ∀ (t : Ln) (b : Bool), (b = true → faultN p s p' s' l = 0 ∧ l ≠ [] ∧ t = printF p s p' s' l ∧ t.length ≤ 4194304) → selvagelaw11_UnifiedBack.n9 (selvagelaw11_UnifiedBack.X w0 0) w0 0 (fun r' _ => r' = .pv (.bool true)) (bkS [.pv (.str p), .pv (.str s), .pv (.str p'), .pv (.str s'), hnksA l, .pv (.str x)] (nmO p s) (nmO p' s')) (.ptr 1 0) (.ptr 2 0) (hnksA l) x t b := by
    intro t b h
    refine selvagelaw11_UnifiedBack.n9_in ?_
    rw [selvagelaw11_UnifiedBack.b9_eq]
    refine condB_split (fun g => ?_) (fun g => back20 L (.inl rfl) hx)
    obtain ⟨h1, h2, h3, h4⟩ := h g
    subst h3
    have hf := h1
    unfold faultN at hf
    split at hf
    · cases hf
    · rename_i g1
      split at hf
      · cases hf
      · rename_i g2
        split at hf
        · cases hf
        · rename_i g3
          have g1 : (nameOKB p s && nameOKB p' s') = true := by simpa using g1
          have g2 : l.all validF = true := by simpa using g2
          have g3 : inOrd l = true := by simpa using g3
          rw [Bool.and_eq_true] at g1
          have hp := parse_print g1.1 g1.2 (fun h hh => ⟨List.all_eq_true.1 g2 h hh, o.ok h hh⟩) g3 h2 h4
          refine Parse_spec L (by omega) (fun w hw => ?_)
          unfold parseOut at hw
          rw [hp] at hw
          simp only at hw
          subst hw
          repeat ((with_reducible first | apply opt_in | apply wI | apply wT | apply wP | apply wS | apply wB); exact rfl)
          rw [neq_raw]
          refine opt_in rfl (opt_in (v := true) rfl (isB_in ?_))
          rw [Bool.not_true, condB_false']
          repeat ((with_reducible first | apply opt_in | apply wI | apply wT | apply wP | apply wS | apply wB); exact rfl)
          refine neq_name (isB_in ?_)
          rw [condB_false']
          repeat ((with_reducible first | apply opt_in | apply wI | apply wT | apply wP | apply wS | apply wB); exact rfl)
          refine neq_name (isB_in ?_)
          rw [condB_false']
          refine same_spec L o.len hrows (isB_in ?_)
          rw [Bool.not_true, condB_false']
          exact back14 L hx _ rfl
  refine selvagelaw11_UnifiedBack.calls ?_
  rw [selvagelaw11_UnifiedBack.b0_eq]
  refine ⟨rfl, ?_⟩
  repeat ((with_reducible first | apply opt_in | apply wI | apply wT | apply wP | apply wS | apply wB); exact rfl)
  refine ⟨rfl, rfl, rfl, ?_⟩
  repeat ((with_reducible first | apply opt_in | apply wI | apply wT | apply wP | apply wS | apply wB); exact rfl)
  refine ⟨rfl, rfl, rfl, ?_⟩
  repeat ((with_reducible first | apply opt_in | apply wI | apply wT | apply wP | apply wS | apply wB); exact rfl)
  refine Print_spec L o ?_
  have off : ∀ (t : Ln) (b : Bool), b = false → selvagelaw11_UnifiedBack.n9 (selvagelaw11_UnifiedBack.X w0 0) w0 0 (fun r' _ => r' = .pv (.bool true)) (bkS [.pv (.str p), .pv (.str s), .pv (.str p'), .pv (.str s'), hnksA l, .pv (.str x)] (nmO p s) (nmO p' s')) (.ptr 1 0) (.ptr 2 0) (hnksA l) x t b := fun t b hb => key t b (fun e => by rw [hb] at e; cases e)
  unfold printOut errA
  repeat ((with_reducible first | apply opt_in | apply wI | apply wT | apply wP | apply wS | apply wB); exact rfl)
  by_cases hf : faultN p s p' s' l = 0
  · rw [if_pos hf, if_pos hf, eql_raw]
    refine opt_in rfl (opt_in (v := true) rfl (isB_in ?_))
    rw [condB_true']
    repeat ((with_reducible first | apply opt_in | apply wI | apply wT | apply wP | apply wS | apply wB); exact rfl)
    rw [condB_decide]
    refine ite_split (fun g => ?_) (fun g => off _ _ rfl)
    have hne : l ≠ [] := by intro e; rw [e] at g; simp at g
    generalize hb : decide (((printF p s p' s' l).length : Int) ≤ 4194304) = b
    refine key _ b (fun e => ⟨hf, hne, rfl, ?_⟩)
    rw [e] at hb
    have := of_decide_eq_true hb; omega
  · rw [if_neg hf, if_neg hf, eql_raw]
    refine opt_in rfl (opt_in (v := false) rfl (isB_in ?_))
    rw [condB_false']
    exact off _ _ rfl
open Go.Proofs.YtjonnhjaiiingaaGreatDoor in
theorem UnifiedBack_spec {w0 : Base} (L : Laid w0.w) {H : Type} {d0 : DataW H} {ds : List (DataW H)} (hT : hasT tabS 12 42 (toPV d0)) (hk : Rows.uptoSmall H (d0 :: ds) = true) : SCalls (cx w0) selvagelaw11_UnifiedBack.id [.pv (toPV d0)] [] fun r _ => r = .pv (.bool true) := by
  obtain ⟨qs, e, g⟩ := hasT_struct tab42 ti42_td hT
  obtain ⟨_, qs, rfl, h1, h⟩ := fields_cons g
  obtain ⟨_, qs, rfl, h2, h⟩ := fields_cons h
  obtain ⟨_, qs, rfl, h3, h⟩ := fields_cons h
  obtain ⟨_, qs, rfl, h4, h⟩ := fields_cons h
  obtain rfl := fields_nil h
  obtain ⟨p, s, rfl⟩ := name_data h1
  obtain ⟨p', s', rfl⟩ := name_data h2
  obtain ⟨xs, rfl, hx⟩ := hasT_slice tab24 ti24_td h3
  obtain ⟨l, rfl, hl⟩ := hnk_list xs hx
  obtain ⟨x, rfl, _⟩ := hasT_str tab9 ti9_td h4
  have hb : Rows.uptoBulkAll (d0 :: ds) ≤ 1048576 := of_decide_eq_true hk
  have h0 := pvB_le d0
  simp only [Rows.uptoBulkAll] at hb
  have e' : toPV d0 = .agg [.str p, .str s, .str p', .str s', .sl (l.map hnkP), .str x] := e
  rw [e'] at h0
  simp only [pvB, pvBs] at h0
  obtain ⟨g1, g2⟩ := hnks_ok (B := 1048576) (Nat.le_refl _) (by omega) hl
  rw [e']
  exact back_law L ⟨by omega, by omega, by omega, by omega, g1, g2, by omega⟩ (by omega)
end
end Go.Sv
