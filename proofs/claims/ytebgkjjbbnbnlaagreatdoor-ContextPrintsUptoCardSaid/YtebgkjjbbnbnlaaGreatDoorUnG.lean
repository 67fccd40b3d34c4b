/- Package unified: a file's text; the law UnifiedPrints. -/
import Derived.Test.YtebgkjjbbnbnlaaGreatDoorUnE
set_option linter.unusedVariables false
set_option linter.unusedSimpArgs false
set_option maxRecDepth 100000
namespace Go.Sv
section
open Go Go.RowKit Go.Proofs
theorem flat_hunks_len : ∀ l : List Hnk, (∀ h ∈ l, HnkOK h) → l.all validF = true → (l.flatMap hunkF).length ≤ 150 * pvBs (l.map hnkP)
  | [], _, _ => by simp
  | h :: l, ok, hv => by
    rw [List.all_cons, Bool.and_eq_true] at hv
    have ih := flat_hunks_len l (fun x hx => ok x (List.mem_cons_of_mem _ hx)) hv.2
    have := hunkF_len hv.1 (ok h (by simp))
    simp only [List.flatMap_cons, List.length_append, List.map_cons]
    rw [pvBs]
    omega
variable {w0 : Base} {σ : Store} {R : AV → Store → Prop}
abbrev nmS (p s p' s' : List UInt8) : Store := [.cells 23 [.pv (.str p), .pv (.str s)], .cells 23 [.pv (.str p'), .pv (.str s')]]
abbrev prS (p s p' s' acc : List UInt8) : Store := [.cells 23 [.pv (.str p), .pv (.str s)], .cells 23 [.pv (.str p'), .pv (.str s')], .bld tyB 5 acc]
def errA (n : Int) : AV := if n = 0 then .pv (.raw .nilIface) else .pv (.iface 63 (.int .i64 n))
def printOut (p s p' s' : List UInt8) (l : List Hnk) : AV := .tup [.pv (.str (if faultN p s p' s' l = 0 then printF p s p' s' l else [])), errA (faultN p s p' s' l)]
theorem uv_loop (L : Laid w0.w) (p s p' s' x y : List UInt8) (xs : List PV) (hx : xs.length ≤ 1048576) (v : AV) : ∀ (r : List Hnk) (k : Nat), xs.drop k = r.map hnkP → (∀ h ∈ r, HnkOK h) → (r.all validF = false → v = .tup [.pv (.str []), errA 100]) →
    (r.all validF = true → unified_Print.n37 (unified_Print.X w0 0) w0 0 (fun r' _ => r' = v) (nmS p s p' s') (.pv (.sl xs)) x y) →
    unified_Print.n18 (unified_Print.X w0 0) w0 0 (fun r' _ => r' = v) (nmS p s p' s') (.pv (.sl xs)) x y (.pv (.sl xs)) xs.length k
  | [], k, hd, _, _, hn => by
    have hk := drop_end hd
    refine unified_Print.n18_in ?_
    rw [unified_Print.b19_eq, condB_decide, if_neg (by omega)]
    exact hn rfl
  | h :: r, k, hd, ht, hb, hn => by
    obtain ⟨h1, h2, hk⟩ := drop_facts hd
    have ok := ht h (by simp)
    refine unified_Print.n18_in ?_
    rw [unified_Print.b19_eq, condB_decide, if_pos (by omega)]
    refine opt_in (idx_ro tab39 h1 rfl) ?_
    repeat ((with_reducible first | apply opt_in | apply wI | apply wT | apply wP | apply wS | apply wB); exact rfl)
    refine Valid_spec L (Nat.le_trans ok.rows (by decide)) (fun x hx => Nat.le_trans (ok.text x hx) (by decide)) (Nat.le_trans ok.head (by decide)) ok.a ok.b ?_
    cases hv : validF h with
    | false =>
      rw [vErr, if_neg (by decide), neq_raw]
      refine opt_in rfl (opt_in (v := false) rfl (isB_in ?_))
      refine condB_split (fun _ => ?_) (fun h => absurd h (by decide))
      repeat ((with_reducible first | apply opt_in | apply wI | apply wT | apply wP | apply wS | apply wB); exact rfl)
      refine fin_keep (Nat.zero_le _) ?_
      rw [hb (by rw [List.all_cons, hv, Bool.false_and])]; rfl
    | true =>
      rw [vErr, if_pos rfl, neq_raw]
      refine opt_in rfl (opt_in (v := true) rfl (isB_in ?_))
      refine condB_split (fun h => absurd h (by decide)) (fun _ => ?_)
      rw [wrap_next hk (by omega)]
      refine unified_Print.n18_weak (EWeak.drop (τ := nmS p s p' s') glob0 (Nat.zero_le _) rfl rfl) ?_
      exact uv_loop L p s p' s' x y xs hx v r (k + 1) h2 (fun x hx => ht x (List.mem_cons_of_mem _ hx)) (fun e => hb (by rw [List.all_cons, hv, Bool.true_and, e])) (fun e => hn (by rw [List.all_cons, hv, Bool.true_and, e]))
theorem uo_loop (L : Laid w0.w) (p s p' s' x y : List UInt8) (xs : List PV) (hx : xs.length ≤ 1048576) (v : AV) : ∀ (r : List Hnk) (g : Hnk) (k : Nat), xs.drop k = (g :: r).map hnkP → (inOrd (g :: r) = false → v = .tup [.pv (.str []), errA 112]) →
    (inOrd (g :: r) = true → unified_Print.n58 (unified_Print.X w0 0) w0 0 (fun r' _ => r' = v) (nmS p s p' s') (.pv (.sl xs)) x y) →
    unified_Print.n41 (unified_Print.X w0 0) w0 0 (fun r' _ => r' = v) (nmS p s p' s') (.pv (.sl xs)) x y ((k + 1 : Nat) : Int)
  | [], g, k, hd, _, hn => by
    obtain ⟨h1, h2, hk⟩ := drop_facts hd
    have hk2 := drop_end h2
    refine unified_Print.n41_in ?_
    rw [unified_Print.b42_eq]
    repeat ((with_reducible first | apply opt_in | apply wI | apply wT | apply wP | apply wS | apply wB); exact rfl)
    rw [condB_decide, if_neg (by omega)]
    exact hn rfl
  | h :: r, g, k, hd, hb, hn => by
    obtain ⟨h1, h2, hk⟩ := drop_facts hd
    obtain ⟨h3, h4, hk2⟩ := drop_facts h2
    have e : IntKind.wrap .i64 (((k + 1 : Nat) : Int) - 1) = (k : Int) := by rw [wrap_i64 (by omega) (by omega)]; omega
    refine unified_Print.n41_in ?_
    rw [unified_Print.b42_eq]
    repeat ((with_reducible first | apply opt_in | apply wI | apply wT | apply wP | apply wS | apply wB); exact rfl)
    rw [condB_decide, if_pos (by omega), e]
    refine opt_in (idx_ro tab39 h1 rfl) ?_
    repeat ((with_reducible first | apply opt_in | apply wI | apply wT | apply wP | apply wS | apply wB); exact rfl)
    refine opt_in (idx_ro tab39 h3 rfl) ?_
    repeat ((with_reducible first | apply opt_in | apply wI | apply wT | apply wP | apply wS | apply wB); exact rfl)
    refine follows_spec L (g := g) (h := h) (isB_in ?_)
    rw [condB_not]
    refine condB_split (fun gg => ?_) (fun gg => ?_)
    · rw [wrap_next hk2 (by omega)]
      exact uo_loop L p s p' s' x y xs hx v r h (k + 1) h2 (fun e => hb (by rw [inOrd, gg, e]; rfl)) (fun e => hn (by rw [inOrd, gg, e]; rfl))
    · repeat ((with_reducible first | apply opt_in | apply wI | apply wT | apply wP | apply wS | apply wB); exact rfl)
      refine fin_keep (Nat.zero_le _) ?_
      rw [hb (by rw [inOrd, gg]; rfl)]; rfl
theorem up_loop (L : Laid w0.w) (p s p' s' : List UInt8) (xs : List PV) (hx : xs.length ≤ 1048576) (v : AV) : ∀ (r : List Hnk) (k : Nat) (acc : List UInt8), xs.drop k = r.map hnkP → (∀ h ∈ r, HnkOK h) → (∀ h ∈ r, pvB (hnkP h) ≤ 8388608) → r.all validF = true →
    acc.length + (r.flatMap hunkF).length ≤ 140737488355328 → v = .tup [.pv (.str (acc ++ r.flatMap hunkF)), .pv (.raw .nilIface)] →
    unified_Print.n66 (unified_Print.X w0 0) w0 0 (fun r' _ => r' = v) (prS p s p' s' acc) (.ptr 2 0) (.pv (.sl xs)) xs.length k
  | [], k, acc, hd, _, _, _, _, hv => by
    have hk := drop_end hd
    refine unified_Print.n66_in ?_
    rw [unified_Print.b67_eq, condB_decide, if_neg (by omega)]
    refine unified_Print.n89_in ?_
    rw [unified_Print.b89_eq]
    refine String_spec rfl (isS_in (fin_keep (Nat.zero_le _) ?_))
    rw [hv]; simp
  | h :: r, k, acc, hd, ht, hB, ha, hl, hv => by
    obtain ⟨h1, h2, hk⟩ := drop_facts hd
    have ok := ht h (by simp)
    rw [List.all_cons, Bool.and_eq_true] at ha
    simp only [List.flatMap_cons, List.length_append] at hl
    refine unified_Print.n66_in ?_
    rw [unified_Print.b67_eq, condB_decide, if_pos (by omega)]
    refine opt_in (idx_ro tab39 h1 rfl) ?_
    repeat ((with_reducible first | apply opt_in | apply wI | apply wT | apply wP | apply wS | apply wB); exact rfl)
    refine Hunk_spec L ok (hB h (by simp)) ?_
    unfold hunkOut
    rw [if_pos ha.1, ha.1, vErr, if_pos rfl]
    repeat ((with_reducible first | apply opt_in | apply wI | apply wT | apply wP | apply wS | apply wB); exact rfl)
    rw [neq_raw]
    refine opt_in rfl (opt_in (v := true) rfl (isB_in ?_))
    refine condB_split (fun h => absurd h (by decide)) (fun _ => ?_)
    refine WriteString_spec (id := 2) rfl (by omega) ?_
    rw [wrap_next hk (by omega)]
    refine unified_Print.n66_weak (EWeak.drop (τ := prS p s p' s' (acc ++ hunkF h)) glob0 (Nat.zero_le _) rfl rfl) ?_
    exact up_loop L p s p' s' xs hx v r (k + 1) (acc ++ hunkF h) h2 (fun x hx => ht x (List.mem_cons_of_mem _ hx)) (fun x hx => hB x (List.mem_cons_of_mem _ hx)) ha.2 (by simp only [List.length_append]; omega) (by rw [hv, List.flatMap_cons, List.append_assoc])
theorem printOut_under (p s p' s' : List UInt8) (l : List Hnk) : AV.under 0 (printOut p s p' s' l) = true := by unfold printOut errA; split <;> rfl
structure PrOK (p s p' s' : List UInt8) (l : List Hnk) : Prop where
  p : p.length ≤ 1048576
  s : s.length ≤ 1048576
  p' : p'.length ≤ 1048576
  s' : s'.length ≤ 1048576
  len : l.length ≤ 1048576
  ok : ∀ h ∈ l, HnkOK h
  bulk : pvBs (l.map hnkP) ≤ 8388608
theorem PrOK.one {p s p' s' : List UInt8} {l : List Hnk} (o : PrOK p s p' s' l) : ∀ h ∈ l, pvB (hnkP h) ≤ 8388608 := fun h hh => Nat.le_trans (pvBs_mem _ _ (List.mem_map_of_mem (f := hnkP) hh)) o.bulk
theorem Print_spec (L : Laid w0.w) {p s p' s' : List UInt8} {l : List Hnk} (o : PrOK p s p' s' l) (hR : R (printOut p s p' s' l) σ) : SCalls (cx w0) unified_Print.id [.pv (nmP p s), .pv (nmP p' s'), hnksA l] σ R := by
  refine SCalls.alone L rfl (fun w1 L1 => ?_) (printOut_under p s p' s' l) hR
  have q1 := shownF_len (p := p) (s := s)
  have q2 := shownF_len (p := p') (s := s')
  have o1 := o.p
  have o2 := o.s
  have o3 := o.p'
  have o4 := o.s'
  have hx : (l.map hnkP).length ≤ 1048576 := by rw [List.length_map]; exact o.len
  have fin : ∀ t, t = !(nameOKB p s && nameOKB p' s') → unified_Print.n9 (unified_Print.X w1 0) w1 0 (fun r' _ => r' = printOut p s p' s' l) (nmS p s p' s') (hnksA l) (if nameOKB p s = true then shownF p s else []) (if nameOKB p' s' = true then shownF p' s' else []) t := by
    rintro t rfl
    refine unified_Print.n9_in ?_
    rw [unified_Print.b9_eq, condB_not]
    refine condB_split (fun g => ?_) (fun g => ?_)
    · rw [Bool.and_eq_true] at g
      rw [if_pos g.1, if_pos g.2]
      repeat ((with_reducible first | apply opt_in | apply wI | apply wT | apply wP | apply wS | apply wB); exact rfl)
      refine uv_loop L1 p s p' s' _ _ (l.map hnkP) hx _ l 0 rfl o.ok (fun e => ?_) (fun e => ?_)
      · have : faultN p s p' s' l = 100 := by simp [faultN, g.1, g.2, e]
        simp [printOut, this]
      refine unified_Print.n37_in ?_
      rw [unified_Print.b37_eq]
      have last : inOrd l = true → unified_Print.n58 (unified_Print.X w1 0) w1 0 (fun r' _ => r' = printOut p s p' s' l) (nmS p s p' s') (hnksA l) (shownF p s) (shownF p' s') := by
        intro e2
        have hf : faultN p s p' s' l = 0 := by simp [faultN, g.1, g.2, e, e2]
        have fl := flat_hunks_len l o.ok e
        have ob := o.bulk
        refine unified_Print.n58_in ?_
        rw [unified_Print.b58_eq]
        refine ⟨by simp only [List.length_cons, List.length_nil]; omega, by simp only [List.length_append, List.length_cons, List.length_nil]; omega, by simp only [List.length_append, List.length_cons, List.length_nil]; omega, by simp only [List.length_append, List.length_cons, List.length_nil]; omega, ?_⟩
        refine WriteString_spec (id := 2) rfl (by simp only [List.length_append, List.length_cons, List.length_nil]; omega) ?_
        repeat ((with_reducible first | apply opt_in | apply wI | apply wT | apply wP | apply wS | apply wB); exact rfl)
        rw [List.nil_append]
        refine up_loop L1 p s p' s' (l.map hnkP) hx _ l 0 _ rfl o.ok o.one e (by simp only [List.length_append, List.length_cons, List.length_nil]; omega) ?_
        unfold printOut
        rw [hf, if_pos rfl, errA, if_pos rfl]; rfl
      match l, last with
      | [], last =>
        refine unified_Print.n41_in ?_
        rw [unified_Print.b42_eq]
        repeat ((with_reducible first | apply opt_in | apply wI | apply wT | apply wP | apply wS | apply wB); exact rfl)
        rw [condB_decide, if_neg (by decide)]
        exact last rfl
      | g0 :: r, last =>
        have := uo_loop L1 p s p' s' (shownF p s) (shownF p' s') ((g0 :: r).map hnkP) hx (printOut p s p' s' (g0 :: r)) r g0 0 rfl (fun e2 => by
          have : faultN p s p' s' (g0 :: r) = 112 := by simp [faultN, g.1, g.2, e2]; simpa using e
          simp [printOut, this]) last
        exact this
    · repeat ((with_reducible first | apply opt_in | apply wI | apply wT | apply wP | apply wS | apply wB); exact rfl)
      refine fin_keep (Nat.zero_le _) ?_
      have : faultN p s p' s' l = 110 := by simp [faultN, g]
      simp [printOut, this]; rfl
  refine unified_Print.calls ?_
  rw [unified_Print.b0_eq]
  refine ⟨rfl, rfl, ?_⟩
  repeat ((with_reducible first | apply opt_in | apply wI | apply wT | apply wP | apply wS | apply wB); exact rfl)
  refine header_spec L1 o.p o.s ?_
  repeat ((with_reducible first | apply opt_in | apply wI | apply wT | apply wP | apply wS | apply wB); exact rfl)
  refine header_spec L1 o.p' o.s' ?_
  repeat ((with_reducible first | apply opt_in | apply wI | apply wT | apply wP | apply wS | apply wB); exact rfl)
  rw [condB_not]
  refine condB_split (fun g => fin _ ?_) (fun g => fin _ ?_)
  · rw [g]; rfl
  · rw [g]; rfl
end
end Go.Sv
