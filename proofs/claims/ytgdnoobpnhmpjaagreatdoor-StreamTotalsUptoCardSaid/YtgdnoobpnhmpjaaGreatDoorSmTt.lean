/- The law StreamTotals. -/
import Derived.Test.YtgdnoobpnhmpjaaGreatDoorSmCt
import Derived.Test.YtgdnoobpnhmpjaaGreatDoorSmRc
import Derived.Test.YtgdnoobpnhmpjaaGreatDoorEq
set_option linter.unusedVariables false
set_option linter.unusedSimpArgs false
set_option maxRecDepth 100000
namespace Go.Sv
open Go Go.RowKit Go.Proofs
theorem revS_ok {s : Sec} (h : SecOK s) : SecOK (revS s) := by
  refine ⟨by show (s.hs.map revH).length ≤ _; rw [List.length_map]; exact h.n, fun x hx => ?_⟩
  obtain ⟨y, hy, rfl⟩ := List.mem_map.1 hx
  have hk := h.h y hy
  refine ⟨?_, fun z hz => ?_, hk.head, hk.b, hk.a⟩
  · show (revF y.rows [] []).length ≤ _
    rw [revF_len]
    simpa using hk.rows
  · exact revF_text y.rows [] [] hk.text nofun nofun z hz
theorem revs_ok {L : List Sec} (hall : ∀ s ∈ L, SecOK s) : ∀ s ∈ L.map revS, SecOK s := by
  intro s hs
  obtain ⟨y, hy, rfl⟩ := List.mem_map.1 hs
  exact revS_ok (hall y hy)
theorem eq_ct (c : Ct) {k : AV → Prop} (hk : k (.pv (.bool false))) : aBinK tabS 55 false .neq (.pv (ctP c)) (.pv (ctP c)) k := by
  refine neq_eq rfl ?_ hk
  have h : aEqT tabS ti55 false (.pv (ctP c)) (.pv (ctP c)) = some ((c.nm == c.nm) && ((c.a == c.a) && ((c.d == c.d) && true))) := rfl
  rw [h]; simp
theorem no_four {L : List Sec} (h : L.any badS = false) : (L.any fun s => s.f == 4) = false := by
  rw [List.any_eq_false] at h ⊢
  intro s hs
  have := h s hs
  unfold badS at this
  intro e
  exact this (by rw [e]; rfl)
theorem cnts_any {L : List Sec} {cs : List Ct} (h : cntsN L = .ok cs) : L.any badS = false ∧ allN L = .ok cs := by
  unfold cntsN at h
  split at h
  · cases h
  · rename_i hb
    exact ⟨by cases e : L.any badS <;> simp_all, h⟩
section
variable {w0 : Base}
abbrev okR : AV → Store → Prop := fun r _ => r = .pv (.bool true)
theorem tt_fin (Ld : Laid w0.w) (a t : AV) : selvagelaw28_StreamTotals.n42 (selvagelaw28_StreamTotals.X w0 0) w0 0 okR [] a t true := by
  refine selvagelaw28_StreamTotals.n42_in ?_
  rw [selvagelaw28_StreamTotals.b42_eq, condB_true']
  exact works_spec Ld (isB_in (fin_same rfl))
theorem cnt_ptr {cs : List Ct} {i : Nat} {c : Ct} (h : cs[i]? = some c) : (cs.map ctP)[i]? = some (ctP c) := by rw [List.getElem?_map, h]; rfl
theorem tt_turn (Ld : Laid w0.w) {cs ds : List Ct} (hl : ds.length = cs.length) (hb : cs.length ≤ 1048576) (hcd : ∀ (i : Nat) c d, cs[i]? = some c → ds[i]? = some d → d.a = c.d ∧ d.d = c.a) : ∀ (q k : Nat), k + q = ds.length →
    selvagelaw28_StreamTotals.n51 (selvagelaw28_StreamTotals.X w0 0) w0 0 okR [] (.pv (.sl (cs.map ctP))) (.pv (.sl (ds.map ctP))) k
  | 0, k, hk => by
    refine selvagelaw28_StreamTotals.n51_in ?_
    rw [selvagelaw28_StreamTotals.b52_eq]
    repeat ((with_reducible first | apply opt_in | apply wI | apply wT | apply wP | apply wS | apply wB); exact rfl)
    rw [List.length_map, condB_decide, if_neg (by omega)]
    refine selvagelaw28_StreamTotals.n68_in ?_
    rw [selvagelaw28_StreamTotals.b68_eq]
    repeat ((with_reducible first | apply opt_in | apply wI | apply wT | apply wP | apply wS | apply wB); exact rfl)
    rw [List.length_map, List.length_map, hl, condB_ibeq, if_pos rfl]
    refine works_spec Ld (isB_in ?_)
    refine selvagelaw28_StreamTotals.n70_in ?_
    rw [selvagelaw28_StreamTotals.b70_eq]
    exact fin_same rfl
  | q + 1, k, hk => by
    have g1 : k < ds.length := by omega
    have g2 : k < cs.length := by omega
    have hd := List.getElem?_eq_getElem g1
    have hc := List.getElem?_eq_getElem g2
    generalize ds[k] = d at hd
    generalize cs[k] = c at hc
    obtain ⟨e1, e2⟩ := hcd k c d hc hd
    refine selvagelaw28_StreamTotals.n51_in ?_
    rw [selvagelaw28_StreamTotals.b52_eq]
    repeat ((with_reducible first | apply opt_in | apply wI | apply wT | apply wP | apply wS | apply wB); exact rfl)
    rw [List.length_map, condB_decide, if_pos (by omega)]
    repeat ((with_reducible first | apply opt_in | apply wI | apply wT | apply wP | apply wS | apply wB); exact rfl)
    rw [List.length_map, List.length_map, hl, condB_ibne, if_pos rfl]
    refine opt_in (idx_ro tab56 (cnt_ptr hd) rfl) ?_
    repeat ((with_reducible first | apply opt_in | apply wI | apply wT | apply wP | apply wS | apply wB); exact rfl)
    refine opt_in (idx_ro tab56 (cnt_ptr hc) rfl) ?_
    repeat ((with_reducible first | apply opt_in | apply wI | apply wT | apply wP | apply wS | apply wB); exact rfl)
    rw [condB_ibne, if_pos e1]
    refine opt_in (idx_ro tab56 (cnt_ptr hd) rfl) ?_
    repeat ((with_reducible first | apply opt_in | apply wI | apply wT | apply wP | apply wS | apply wB); exact rfl)
    refine opt_in (idx_ro tab56 (cnt_ptr hc) rfl) ?_
    repeat ((with_reducible first | apply opt_in | apply wI | apply wT | apply wP | apply wS | apply wB); exact rfl)
    rw [show ((d.d : Int) != c.a) = false by rw [e2]; simp]
    refine selvagelaw28_StreamTotals.n62_in ?_
    rw [selvagelaw28_StreamTotals.b62_eq, condB_false', wrap_next g1 (by omega)]
    exact tt_turn Ld hl hb hcd q (k + 1) (by omega)
theorem tt_back (Ld : Laid w0.w) {L : List Sec} (hL : L.length ≤ 1048576) (hall : ∀ s ∈ L, SecOK s) {a e_ : AV} (h : (∃ e, cntsN L = .error e ∧ e_ = .pv (.iface 61 (.int .i64 e))) ∨ ∃ cs, cntsN L = .ok cs ∧ a = .pv (.sl (cs.map ctP)) ∧ e_ = .pv (.raw .nilIface)) :
    selvagelaw28_StreamTotals.n35 (selvagelaw28_StreamTotals.X w0 0) w0 0 okR [] (secsA L) a e_ := by
  refine selvagelaw28_StreamTotals.n35_in ?_
  rw [selvagelaw28_StreamTotals.b35_eq]
  refine twins_spec Ld hL hall ?_
  refine SReverse_spec Ld hL hall ?_
  have hL2 : (L.map revS).length ≤ 1048576 := by rw [List.length_map]; exact hL
  rcases h with ⟨e, h1, rfl⟩ | ⟨cs, h1, rfl, rfl⟩
  · have key : ∀ {M : List Sec} {t : AV}, M.length ≤ 1048576 → (∀ s ∈ M, SecOK s) → SCalls (cx w0) stream_Counts.id [secsA M] [] fun r_2 σ'_2 => isTup r_2 fun vs_2 => opt ((vs_2)[0]?) fun t59 => isTup r_2 fun vs_3 => opt ((vs_3)[1]?) fun t60 => aBinK tabS 24 true .neq (.pv (.iface 61 (.int .i64 e))) (.pv (.raw .nilIface)) fun v => isB v fun b => condB b (selvagelaw28_StreamTotals.n42 (selvagelaw28_StreamTotals.X w0 0) w0 0 okR σ'_2 a t59 true) (aBinK tabS 24 true .neq t (.pv (.raw .nilIface)) fun v_1 => isB v_1 fun b_1 => condB b_1 (selvagelaw28_StreamTotals.n42 (selvagelaw28_StreamTotals.X w0 0) w0 0 okR σ'_2 a t59 true) (aBinK tabS 24 true .neq t60 (.pv (.raw .nilIface)) fun v_2 => isB v_2 fun b_2 => selvagelaw28_StreamTotals.n42 (selvagelaw28_StreamTotals.X w0 0) w0 0 okR σ'_2 a t59 b_2)) := by
      intro M t hM hMa
      refine SCounts_spec Ld hM hMa ?_
      cases cntsN M with
      | error e' =>
        rw [cntP]
        repeat ((with_reducible first | apply opt_in | apply wI | apply wT | apply wP | apply wS | apply wB); exact rfl)
        rw [neq_raw]
        refine opt_in rfl (opt_in (v := false) rfl (isB_in ?_))
        refine condB_split (fun _ => ?_) (fun h => absurd h (by decide))
        exact tt_fin Ld _ _
      | ok l =>
        rw [cntP]
        repeat ((with_reducible first | apply opt_in | apply wI | apply wT | apply wP | apply wS | apply wB); exact rfl)
        rw [neq_raw]
        refine opt_in rfl (opt_in (v := false) rfl (isB_in ?_))
        refine condB_split (fun _ => ?_) (fun h => absurd h (by decide))
        exact tt_fin Ld _ _
    unfold revA
    split
    · repeat ((with_reducible first | apply opt_in | apply wI | apply wT | apply wP | apply wS | apply wB); exact rfl)
      exact key (M := []) (Nat.zero_le _) nofun
    · repeat ((with_reducible first | apply opt_in | apply wI | apply wT | apply wP | apply wS | apply wB); exact rfl)
      exact key (M := L.map revS) hL2 (revs_ok hall)
  · obtain ⟨hb, hal⟩ := cnts_any h1
    unfold revA
    rw [no_four hb, if_neg (by decide)]
    repeat ((with_reducible first | apply opt_in | apply wI | apply wT | apply wP | apply wS | apply wB); exact rfl)
    refine SCounts_spec Ld hL2 (revs_ok hall) ?_
    cases h2 : cntsN (L.map revS) with
    | error e' =>
      rw [cntP]
      repeat ((with_reducible first | apply opt_in | apply wI | apply wT | apply wP | apply wS | apply wB); exact rfl)
      rw [neq_raw]
      refine opt_in rfl (opt_in (v := true) rfl (isB_in ?_))
      refine condB_split (fun h => absurd h (by decide)) (fun _ => ?_)
      rw [neq_raw]
      refine opt_in rfl (opt_in (v := true) rfl (isB_in ?_))
      refine condB_split (fun h => absurd h (by decide)) (fun _ => ?_)
      rw [neq_raw]
      refine opt_in rfl (opt_in (v := false) rfl (isB_in ?_))
      exact tt_fin Ld _ _
    | ok ds =>
      rw [cntP]
      repeat ((with_reducible first | apply opt_in | apply wI | apply wT | apply wP | apply wS | apply wB); exact rfl)
      rw [neq_raw]
      refine opt_in rfl (opt_in (v := true) rfl (isB_in ?_))
      refine condB_split (fun h => absurd h (by decide)) (fun _ => ?_)
      rw [neq_raw]
      refine opt_in rfl (opt_in (v := true) rfl (isB_in ?_))
      refine condB_split (fun h => absurd h (by decide)) (fun _ => ?_)
      rw [neq_raw]
      refine opt_in rfl (opt_in (v := true) rfl (isB_in ?_))
      refine selvagelaw28_StreamTotals.n42_in ?_
      rw [selvagelaw28_StreamTotals.b42_eq]
      refine condB_split (fun h => absurd h (by decide)) (fun _ => ?_)
      obtain ⟨_, hal2⟩ := cnts_any h2
      have l1 := allN_len _ _ hal
      have l2 := allN_len _ _ hal2
      rw [List.length_map] at l2
      exact tt_turn Ld (by omega) (by omega) (allN_rev L cs ds hal hal2) ds.length 0 (Nat.zero_add _)
theorem tt_same (Ld : Laid w0.w) {L : List Sec} (hL : L.length ≤ 1048576) (hall : ∀ s ∈ L, SecOK s) {cs : List Ct} (h : cntsN L = .ok cs) (hb : cs.length ≤ 1048576) : ∀ (q k : Nat), k + q = cs.length →
    selvagelaw28_StreamTotals.n18 (selvagelaw28_StreamTotals.X w0 0) w0 0 okR [] (secsA L) (.pv (.sl (cs.map ctP))) (.pv (.raw .nilIface)) (.pv (.sl (cs.map ctP))) k
  | 0, k, hk => by
    refine selvagelaw28_StreamTotals.n18_in ?_
    rw [selvagelaw28_StreamTotals.b19_eq]
    repeat ((with_reducible first | apply opt_in | apply wI | apply wT | apply wP | apply wS | apply wB); exact rfl)
    rw [List.length_map, condB_decide, if_neg (by omega)]
    exact tt_back Ld hL hall (.inr ⟨cs, h, rfl, rfl⟩)
  | q + 1, k, hk => by
    have g2 : k < cs.length := by omega
    have hc := List.getElem?_eq_getElem g2
    generalize cs[k] = c at hc
    refine selvagelaw28_StreamTotals.n18_in ?_
    rw [selvagelaw28_StreamTotals.b19_eq]
    repeat ((with_reducible first | apply opt_in | apply wI | apply wT | apply wP | apply wS | apply wB); exact rfl)
    rw [List.length_map, condB_decide, if_pos (by omega)]
    refine opt_in (idx_ro tab56 (cnt_ptr hc) rfl) ?_
    repeat ((with_reducible first | apply opt_in | apply wI | apply wT | apply wP | apply wS | apply wB); exact rfl)
    refine opt_in (idx_ro tab55 (cnt_ptr hc) rfl) ?_
    repeat ((with_reducible first | apply opt_in | apply wI | apply wT | apply wP | apply wS | apply wB); exact rfl)
    refine eq_ct c (isB_in ?_)
    refine condB_split (fun h => absurd h (by decide)) (fun _ => ?_)
    rw [wrap_next g2 (by omega)]
    exact tt_same Ld hL hall h hb q (k + 1) (by omega)
theorem totals_law (Ld : Laid w0.w) {L : List Sec} (hL : L.length ≤ 1048576) (hall : ∀ s ∈ L, SecOK s) : SCalls (cx w0) selvagelaw28_StreamTotals.id [secsA L] [] okR := by
  refine selvagelaw28_StreamTotals.calls ?_
  rw [selvagelaw28_StreamTotals.b0_eq]
  refine twins_spec Ld hL hall ?_
  refine SCounts_spec Ld hL hall ?_
  cases h : cntsN L with
  | error e =>
    rw [cntP]
    repeat ((with_reducible first | apply opt_in | apply wI | apply wT | apply wP | apply wS | apply wB); exact rfl)
    refine rCounts_spec Ld hL hall ?_
    rw [h, cntR]
    repeat ((with_reducible first | apply opt_in | apply wI | apply wT | apply wP | apply wS | apply wB); exact rfl)
    rw [condB_ibne, if_pos rfl]
    refine snum_err Ld (isI_in ?_)
    rw [show ((e : Int) != e) = false by simp]
    refine selvagelaw28_StreamTotals.n9_in ?_
    rw [selvagelaw28_StreamTotals.b9_eq, condB_false']
    refine selvagelaw28_StreamTotals.n18_in ?_
    rw [selvagelaw28_StreamTotals.b19_eq]
    repeat ((with_reducible first | apply opt_in | apply wI | apply wT | apply wP | apply wS | apply wB); exact rfl)
    refine condB_split (fun h => absurd h (by decide)) (fun _ => ?_)
    exact tt_back Ld hL hall (.inl ⟨e, h, rfl⟩)
  | ok cs =>
    have l1 := allN_len _ _ (cnts_any h).2
    rw [cntP]
    repeat ((with_reducible first | apply opt_in | apply wI | apply wT | apply wP | apply wS | apply wB); exact rfl)
    refine rCounts_spec Ld hL hall ?_
    rw [h, cntR]
    repeat ((with_reducible first | apply opt_in | apply wI | apply wT | apply wP | apply wS | apply wB); exact rfl)
    rw [List.length_map, condB_ibne, if_pos rfl]
    refine snum_nil Ld (isI_in ?_)
    refine selvagelaw28_StreamTotals.n9_in ?_
    rw [selvagelaw28_StreamTotals.b9_eq]
    refine condB_split (fun h => absurd h (by decide)) (fun _ => ?_)
    exact tt_same Ld hL hall h (by omega) cs.length 0 (Nat.zero_add _)
end
end Go.Sv
