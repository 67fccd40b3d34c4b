/- The document's answer for a file's text; the law UnifiedPrints. -/
import Derived.Test.YtjonnhjaiiingaaGreatDoorUnG
set_option linter.unusedVariables false
set_option linter.unusedSimpArgs false
set_option maxRecDepth 100000
namespace Go.Sv
section
open Go Go.RowKit Go.Proofs
variable {w0 : Base} {σ : Store} {R : AV → Store → Prop}
theorem rv_loop (L : Laid w0.w) (S : Store) (xs : List PV) (hx : xs.length ≤ 1048576) (v : AV) : ∀ (r : List Hnk) (k : Nat), xs.drop k = r.map hnkP → (∀ h ∈ r, HnkOK h) → (r.all validF = false → v = .pv (.int .i64 100)) →
    (r.all validF = true → selvageref11_Faults.n31 (selvageref11_Faults.X w0 0) w0 0 (fun r' _ => r' = v) S (.pv (.sl xs))) →
    selvageref11_Faults.n14 (selvageref11_Faults.X w0 0) w0 0 (fun r' _ => r' = v) S (.pv (.sl xs)) k
  | [], k, hd, _, _, hn => by
    have hk := drop_end hd
    refine selvageref11_Faults.n14_in ?_
    rw [selvageref11_Faults.b15_eq]
    repeat (first | ((with_reducible show opt _ _); refine opt_in rfl ?_) | ((with_reducible show isI _ _ _); refine isI_in ?_) | ((with_reducible show isTup _ _); refine isTup_in ?_) | ((with_reducible show isS _ _); refine isS_in ?_) | ((with_reducible show isB _ _); refine isB_in ?_))
    rw [condB_decide, if_neg (by omega)]
    exact hn rfl
  | h :: r, k, hd, ht, hb, hn => by
    obtain ⟨h1, h2, hk⟩ := drop_facts hd
    have ok := ht h (by simp)
    refine selvageref11_Faults.n14_in ?_
    rw [selvageref11_Faults.b15_eq]
    repeat (first | ((with_reducible show opt _ _); refine opt_in rfl ?_) | ((with_reducible show isI _ _ _); refine isI_in ?_) | ((with_reducible show isTup _ _); refine isTup_in ?_) | ((with_reducible show isS _ _); refine isS_in ?_) | ((with_reducible show isB _ _); refine isB_in ?_))
    rw [condB_decide, if_pos (by omega)]
    refine opt_in (idx_ro tab37 h1 rfl) ?_
    repeat (first | ((with_reducible show opt _ _); refine opt_in rfl ?_) | ((with_reducible show isI _ _ _); refine isI_in ?_) | ((with_reducible show isTup _ _); refine isTup_in ?_) | ((with_reducible show isS _ _); refine isS_in ?_) | ((with_reducible show isB _ _); refine isB_in ?_))
    refine rValid_spec L (Nat.le_trans ok.rows (by decide)) (fun x hx => Nat.le_trans (ok.text x hx) (by decide)) (Nat.le_trans ok.head (by decide)) ?_
    refine isI_in ?_
    rw [condB_ibne]
    cases hv : validF h with
    | false =>
      rw [if_neg (by decide)]
      refine fin_keep (Nat.zero_le _) ?_
      rw [hb (by rw [List.all_cons, hv, Bool.false_and])]
    | true =>
      rw [if_pos rfl, if_pos rfl, wrap_next hk (by omega)]
      exact rv_loop L S xs hx v r (k + 1) h2 (fun x hx => ht x (List.mem_cons_of_mem _ hx)) (fun e => hb (by rw [List.all_cons, hv, Bool.true_and, e])) (fun e => hn (by rw [List.all_cons, hv, Bool.true_and, e]))
theorem ro_loop (L : Laid w0.w) (S : Store) (xs : List PV) (hx : xs.length ≤ 1048576) (v : AV) : ∀ (r : List Hnk) (g : Hnk) (k : Nat), xs.drop k = (g :: r).map hnkP → (inOrd (g :: r) = false → v = .pv (.int .i64 112)) → (inOrd (g :: r) = true → v = .pv (.int .i64 0)) →
    selvageref11_Faults.n35 (selvageref11_Faults.X w0 0) w0 0 (fun r' _ => r' = v) S (.pv (.sl xs)) ((k + 1 : Nat) : Int)
  | [], g, k, hd, _, hn => by
    obtain ⟨h1, h2, hk⟩ := drop_facts hd
    have hk2 := drop_end h2
    refine selvageref11_Faults.n35_in ?_
    rw [selvageref11_Faults.b36_eq]
    repeat (first | ((with_reducible show opt _ _); refine opt_in rfl ?_) | ((with_reducible show isI _ _ _); refine isI_in ?_) | ((with_reducible show isTup _ _); refine isTup_in ?_) | ((with_reducible show isS _ _); refine isS_in ?_) | ((with_reducible show isB _ _); refine isB_in ?_))
    rw [condB_decide, if_neg (by omega)]
    refine selvageref11_Faults.n52_in ?_
    rw [selvageref11_Faults.b52_eq]
    exact fin_keep (Nat.zero_le _) (hn rfl).symm
  | h :: r, g, k, hd, hb, hn => by
    obtain ⟨h1, h2, hk⟩ := drop_facts hd
    obtain ⟨h3, h4, hk2⟩ := drop_facts h2
    have e : IntKind.wrap .i64 (((k + 1 : Nat) : Int) - 1) = (k : Int) := by rw [wrap_i64 (by omega) (by omega)]; omega
    refine selvageref11_Faults.n35_in ?_
    rw [selvageref11_Faults.b36_eq]
    repeat (first | ((with_reducible show opt _ _); refine opt_in rfl ?_) | ((with_reducible show isI _ _ _); refine isI_in ?_) | ((with_reducible show isTup _ _); refine isTup_in ?_) | ((with_reducible show isS _ _); refine isS_in ?_) | ((with_reducible show isB _ _); refine isB_in ?_))
    rw [condB_decide, if_pos (by omega), e]
    refine opt_in (idx_ro tab37 h1 rfl) ?_
    repeat (first | ((with_reducible show opt _ _); refine opt_in rfl ?_) | ((with_reducible show isI _ _ _); refine isI_in ?_) | ((with_reducible show isTup _ _); refine isTup_in ?_) | ((with_reducible show isS _ _); refine isS_in ?_) | ((with_reducible show isB _ _); refine isB_in ?_))
    refine opt_in (idx_ro tab37 h3 rfl) ?_
    repeat (first | ((with_reducible show opt _ _); refine opt_in rfl ?_) | ((with_reducible show isI _ _ _); refine isI_in ?_) | ((with_reducible show isTup _ _); refine isTup_in ?_) | ((with_reducible show isS _ _); refine isS_in ?_) | ((with_reducible show isB _ _); refine isB_in ?_))
    refine InOrder_spec L (g := g) (h := h) (isB_in ?_)
    rw [condB_not]
    refine condB_split (fun gg => ?_) (fun gg => ?_)
    · rw [wrap_next hk2 (by omega)]
      exact ro_loop L S xs hx v r h (k + 1) h2 (fun e => hb (by rw [inOrd, gg, e]; rfl)) (fun e => hn (by rw [inOrd, gg, e]; rfl))
    · refine fin_keep (Nat.zero_le _) ?_
      rw [hb (by rw [inOrd, gg]; rfl)]
theorem Faults_spec (L : Laid w0.w) {p s p' s' : List UInt8} {l : List Hnk} (o : PrOK p s p' s' l) (hR : R (.pv (.int .i64 (faultN p s p' s' l))) σ) : SCalls (cx w0) selvageref11_Faults.id [.pv (nmP p s), .pv (nmP p' s'), hnksA l] σ R := by
  refine SCalls.alone L rfl (fun w1 L1 => ?_) rfl hR
  have hx : (l.map hnkP).length ≤ 1048576 := by rw [List.length_map]; exact o.len
  have fin : ∀ t, t = !(nameOKB p s && nameOKB p' s') → selvageref11_Faults.n5 (selvageref11_Faults.X w1 0) w1 0 (fun r' _ => r' = .pv (.int .i64 (faultN p s p' s' l))) (nmS p s p' s') (hnksA l) t := by
    rintro t rfl
    refine selvageref11_Faults.n5_in ?_
    rw [selvageref11_Faults.b5_eq, condB_not]
    refine condB_split (fun g => ?_) (fun g => ?_)
    · rw [Bool.and_eq_true] at g
      refine rv_loop L1 _ (l.map hnkP) hx _ l 0 rfl o.ok (fun e => ?_) (fun e => ?_)
      · have : faultN p s p' s' l = 100 := by simp [faultN, g.1, g.2, e]
        rw [this]
      refine selvageref11_Faults.n31_in ?_
      rw [selvageref11_Faults.b31_eq]
      match l, e with
      | [], e =>
        refine selvageref11_Faults.n35_in ?_
        rw [selvageref11_Faults.b36_eq]
        repeat (first | ((with_reducible show opt _ _); refine opt_in rfl ?_) | ((with_reducible show isI _ _ _); refine isI_in ?_) | ((with_reducible show isTup _ _); refine isTup_in ?_) | ((with_reducible show isS _ _); refine isS_in ?_) | ((with_reducible show isB _ _); refine isB_in ?_))
        rw [condB_decide, if_neg (by decide)]
        refine selvageref11_Faults.n52_in ?_
        rw [selvageref11_Faults.b52_eq]
        refine fin_keep (Nat.zero_le _) ?_
        have : faultN p s p' s' [] = 0 := by simp [faultN, g.1, g.2, inOrd]
        rw [this]
      | g0 :: r, e =>
        have := ro_loop L1 (nmS p s p' s') ((g0 :: r).map hnkP) hx (.pv (.int .i64 (faultN p s p' s' (g0 :: r)))) r g0 0 rfl (fun e2 => by
          have : faultN p s p' s' (g0 :: r) = 112 := by simp [faultN, g.1, g.2, e2]; simpa using e
          rw [this]) (fun e2 => by
          have : faultN p s p' s' (g0 :: r) = 0 := by simp [faultN, g.1, g.2, e2]; simpa using e
          rw [this])
        exact this
    · refine fin_keep (Nat.zero_le _) ?_
      have : faultN p s p' s' l = 110 := by simp [faultN, g]
      rw [this]
  refine selvageref11_Faults.calls ?_
  rw [selvageref11_Faults.b0_eq]
  refine ⟨rfl, rfl, ?_⟩
  repeat (first | ((with_reducible show opt _ _); refine opt_in rfl ?_) | ((with_reducible show isI _ _ _); refine isI_in ?_) | ((with_reducible show isTup _ _); refine isTup_in ?_) | ((with_reducible show isS _ _); refine isS_in ?_) | ((with_reducible show isB _ _); refine isB_in ?_))
  refine NameOK_spec L1 o.p o.s (isB_in ?_)
  rw [condB_not]
  refine condB_split (fun g => ?_) (fun g => fin _ ?_)
  · repeat (first | ((with_reducible show opt _ _); refine opt_in rfl ?_) | ((with_reducible show isI _ _ _); refine isI_in ?_) | ((with_reducible show isTup _ _); refine isTup_in ?_) | ((with_reducible show isS _ _); refine isS_in ?_) | ((with_reducible show isB _ _); refine isB_in ?_))
    refine NameOK_spec L1 o.p' o.s' (isB_in (fin _ ?_))
    rw [g]; rfl
  · rw [g]; rfl
theorem rp_loop (L : Laid w0.w) (p s p' s' : List UInt8) (xs : List PV) (hx : xs.length ≤ 1048576) (v : AV) : ∀ (r : List Hnk) (k : Nat) (acc : List UInt8), xs.drop k = r.map hnkP → (∀ h ∈ r, HnkOK h) → (∀ h ∈ r, pvB (hnkP h) ≤ 1048576) → r.all validF = true →
    acc.length + (r.flatMap hunkF).length ≤ 140737488355328 → v = .tup [.pv (.str (acc ++ r.flatMap hunkF)), .pv (.int .i64 0)] →
    selvageref11_Print.n18 (selvageref11_Print.X w0 0) w0 0 (fun r' _ => r' = v) [.cells 23 [.pv (.str p), .pv (.str s)], .cells 23 [.pv (.str p'), .pv (.str s')], .arr 1 (bytesPV acc) false] (.pv (.sl xs)) (.arr 2 acc.length 0 acc.length) k
  | [], k, acc, hd, _, _, _, _, hv => by
    have hk := drop_end hd
    refine selvageref11_Print.n18_in ?_
    rw [selvageref11_Print.b19_eq]
    repeat (first | ((with_reducible show opt _ _); refine opt_in rfl ?_) | ((with_reducible show isI _ _ _); refine isI_in ?_) | ((with_reducible show isTup _ _); refine isTup_in ?_) | ((with_reducible show isS _ _); refine isS_in ?_) | ((with_reducible show isB _ _); refine isB_in ?_))
    rw [condB_decide, if_neg (by omega)]
    refine selvageref11_Print.n31_in ?_
    rw [selvageref11_Print.b31_eq]
    refine opt2_in (conv_bytes (id := 2) (acc := acc) rfl) ?_
    refine isS_in (fin_keep (Nat.zero_le _) ?_)
    rw [hv]; simp
  | h :: r, k, acc, hd, ht, hB, ha, hl, hv => by
    obtain ⟨h1, h2, hk⟩ := drop_facts hd
    have ok := ht h (by simp)
    rw [List.all_cons, Bool.and_eq_true] at ha
    simp only [List.flatMap_cons, List.length_append] at hl
    have ih := rp_loop L p s p' s' xs hx v r (k + 1) (acc ++ hunkF h) h2 (fun x hx => ht x (List.mem_cons_of_mem _ hx)) (fun x hx => hB x (List.mem_cons_of_mem _ hx)) ha.2 (by simp only [List.length_append]; omega) (by rw [hv, List.flatMap_cons, List.append_assoc])
    refine selvageref11_Print.n18_in ?_
    rw [selvageref11_Print.b19_eq]
    repeat (first | ((with_reducible show opt _ _); refine opt_in rfl ?_) | ((with_reducible show isI _ _ _); refine isI_in ?_) | ((with_reducible show isTup _ _); refine isTup_in ?_) | ((with_reducible show isS _ _); refine isS_in ?_) | ((with_reducible show isB _ _); refine isB_in ?_))
    rw [condB_decide, if_pos (by omega)]
    refine opt_in (idx_ro tab37 h1 rfl) ?_
    repeat (first | ((with_reducible show opt _ _); refine opt_in rfl ?_) | ((with_reducible show isI _ _ _); refine isI_in ?_) | ((with_reducible show isTup _ _); refine isTup_in ?_) | ((with_reducible show isS _ _); refine isS_in ?_) | ((with_reducible show isB _ _); refine isB_in ?_))
    refine rHunk_spec L ok (hB h (by simp)) ?_
    unfold hunkOutR
    rw [if_pos ha.1, ha.1, v01, if_pos rfl]
    repeat (first | ((with_reducible show opt _ _); refine opt_in rfl ?_) | ((with_reducible show isI _ _ _); refine isI_in ?_) | ((with_reducible show isTup _ _); refine isTup_in ?_) | ((with_reducible show isS _ _); refine isS_in ?_) | ((with_reducible show isB _ _); refine isB_in ?_))
    refine opt2_in (append_bytes (id := 2) (acc := acc) (s := hunkF h) rfl rfl (by omega)) ?_
    rw [wrap_next hk (by omega)]
    simpa [List.length_append] using ih
theorem rPrint_spec (L : Laid w0.w) {p s p' s' : List UInt8} {l : List Hnk} (o : PrOK p s p' s' l) (hR : R (printOutR p s p' s' l) σ) : SCalls (cx w0) selvageref11_Print.id [.pv (nmP p s), .pv (nmP p' s'), hnksA l] σ R := by
  refine SCalls.alone L rfl (fun w1 L1 => ?_) rfl hR
  have q1 := shownF_len (p := p) (s := s)
  have q2 := shownF_len (p := p') (s := s')
  have o1 := o.p
  have o2 := o.s
  have o3 := o.p'
  have o4 := o.s'
  have hx : (l.map hnkP).length ≤ 1048576 := by rw [List.length_map]; exact o.len
  refine selvageref11_Print.calls ?_
  rw [selvageref11_Print.b0_eq]
  refine ⟨rfl, rfl, ?_⟩
  repeat (first | ((with_reducible show opt _ _); refine opt_in rfl ?_) | ((with_reducible show isI _ _ _); refine isI_in ?_) | ((with_reducible show isTup _ _); refine isTup_in ?_) | ((with_reducible show isS _ _); refine isS_in ?_) | ((with_reducible show isB _ _); refine isB_in ?_))
  refine Faults_spec L1 o (isI_in ?_)
  rw [condB_ibne]
  refine ite_split (fun g => ?_) (fun g => fin_keep (Nat.zero_le _) ?_)
  · have e : l.all validF = true := by
      cases e : l.all validF with
      | true => rfl
      | false =>
        unfold faultN at g
        rw [e] at g
        split at g
        · cases g
        · rw [if_pos rfl] at g; cases g
    have fl := flat_hunks_len l o.ok e
    have ob := o.bulk
    repeat (first | ((with_reducible show opt _ _); refine opt_in rfl ?_) | ((with_reducible show isI _ _ _); refine isI_in ?_) | ((with_reducible show isTup _ _); refine isTup_in ?_) | ((with_reducible show isS _ _); refine isS_in ?_) | ((with_reducible show isB _ _); refine isB_in ?_))
    refine Shown_spec L1 o.p o.s (isS_in ⟨rfl, ?_⟩)
    refine ⟨by simp only [List.length_cons, List.length_nil]; omega, by simp only [List.length_append, List.length_cons, List.length_nil]; omega, ?_⟩
    refine Shown_spec L1 o.p' o.s' (isS_in ?_)
    refine ⟨by simp only [List.length_append, List.length_cons, List.length_nil]; omega, by simp only [List.length_append, List.length_cons, List.length_nil]; omega, ?_⟩
    refine opt2_in (conv_str (by simp only [List.length_append, List.length_cons, List.length_nil]; omega)) ?_
    refine rp_loop L1 p s p' s' (l.map hnkP) hx _ l 0 _ rfl o.ok o.one e (by simp only [List.length_append, List.length_cons, List.length_nil]; omega) ?_
    unfold printOutR
    rw [g, if_pos rfl]; rfl
  · unfold printOutR
    rw [if_neg g]
/-! ### The law -/
theorem num11_nil (L : Laid w0.w) (hR : R (.pv (.int .i64 0)) σ) : SCalls (cx w0) selvagelaw11_num.id [.pv (.raw .nilIface)] σ R := by
  refine SCalls.alone L rfl (fun w1 L1 => ?_) rfl hR
  refine selvagelaw11_num.calls ?_
  rw [selvagelaw11_num.b0_eq, eql_raw]
  refine opt_in rfl (opt_in (v := true) rfl (isB_in ?_))
  rw [condB_true']
  exact fin_keep (Nat.zero_le _) rfl
theorem num11_err (L : Laid w0.w) {n : Int} (hR : R (.pv (.int .i64 n)) σ) : SCalls (cx w0) selvagelaw11_num.id [.pv (.iface 50 (.int .i64 n))] σ R := by
  refine SCalls.alone L rfl (fun w1 L1 => ?_) rfl hR
  refine selvagelaw11_num.calls ?_
  rw [selvagelaw11_num.b0_eq, eql_raw]
  refine opt_in rfl (opt_in (v := false) rfl (isB_in ?_))
  rw [condB_false']
  refine opt_in rfl ?_
  refine As_spec L1 (id := 0) rfl (isB_in ?_)
  rw [condB_true']
  repeat (first | ((with_reducible show opt _ _); refine opt_in rfl ?_) | ((with_reducible show isI _ _ _); refine isI_in ?_) | ((with_reducible show isTup _ _); refine isTup_in ?_) | ((with_reducible show isS _ _); refine isS_in ?_) | ((with_reducible show isB _ _); refine isB_in ?_))
  exact fin_keep (Nat.zero_le _) rfl
theorem num11 (L : Laid w0.w) {n : Int} (hR : R (.pv (.int .i64 n)) σ) : SCalls (cx w0) selvagelaw11_num.id [errA n] σ R := by
  unfold errA
  split
  · rename_i h
    rw [h] at hR
    exact num11_nil L hR
  · exact num11_err L hR
theorem vErr_errA (b : Bool) : vErr b = errA (if b = true then 0 else 100) := by cases b <;> rfl
theorem prints_loop (L : Laid w0.w) (p s p' s' : List UInt8) (l : List Hnk) (o : PrOK p s p' s' l) : ∀ (r : List Hnk) (k : Nat), (l.map hnkP).drop k = r.map hnkP → (∀ h ∈ r, HnkOK h ∧ pvB (hnkP h) ≤ 1048576) →
    selvagelaw11_UnifiedPrints.n20 (selvagelaw11_UnifiedPrints.X w0 0) w0 0 (fun r' _ => r' = .pv (.bool true)) (nmS p s p' s') (hnksA l) k := by
  have last : selvagelaw11_UnifiedPrints.n41 (selvagelaw11_UnifiedPrints.X w0 0) w0 0 (fun r' _ => r' = .pv (.bool true)) (nmS p s p' s') := by
    refine selvagelaw11_UnifiedPrints.n41_in ?_
    rw [selvagelaw11_UnifiedPrints.b41_eq]
    exact sure_spec L (isB_in (fin_keep (Nat.zero_le _) rfl))
  have hl := o.len
  intro r
  induction r with
  | nil =>
    intro k hd _
    have hk := drop_end hd
    rw [List.length_map] at hk
    refine selvagelaw11_UnifiedPrints.n20_in ?_
    rw [selvagelaw11_UnifiedPrints.b21_eq]
    repeat (first | ((with_reducible show opt _ _); refine opt_in rfl ?_) | ((with_reducible show isI _ _ _); refine isI_in ?_) | ((with_reducible show isTup _ _); refine isTup_in ?_) | ((with_reducible show isS _ _); refine isS_in ?_) | ((with_reducible show isB _ _); refine isB_in ?_))
    rw [condB_decide, if_neg (by rw [List.length_map]; omega)]
    refine selvagelaw11_UnifiedPrints.n24_in ?_
    rw [selvagelaw11_UnifiedPrints.b24_eq, condB_false']
    exact last
  | cons h r ih =>
    intro k hd ht
    obtain ⟨h1, h2, hk⟩ := drop_facts hd
    rw [List.length_map] at hk
    obtain ⟨ok, hB⟩ := ht h (by simp)
    have ih' := ih (k + 1) h2 (fun x hx => ht x (List.mem_cons_of_mem _ hx))
    refine selvagelaw11_UnifiedPrints.n20_in ?_
    rw [selvagelaw11_UnifiedPrints.b21_eq]
    repeat (first | ((with_reducible show opt _ _); refine opt_in rfl ?_) | ((with_reducible show isI _ _ _); refine isI_in ?_) | ((with_reducible show isTup _ _); refine isTup_in ?_) | ((with_reducible show isS _ _); refine isS_in ?_) | ((with_reducible show isB _ _); refine isB_in ?_))
    rw [condB_decide, if_pos (by rw [List.length_map]; omega)]
    have key : ∀ t, selvagelaw11_UnifiedPrints.n24 (selvagelaw11_UnifiedPrints.X w0 0) w0 0 (fun r' _ => r' = .pv (.bool true)) (nmS p s p' s') (hnksA l) k t := by
      intro t
      refine selvagelaw11_UnifiedPrints.n24_in ?_
      rw [selvagelaw11_UnifiedPrints.b24_eq]
      refine condB_split (fun _ => ?_) (fun _ => last)
      refine opt_in (idx_ro tab37 h1 rfl) ?_
      repeat (first | ((with_reducible show opt _ _); refine opt_in rfl ?_) | ((with_reducible show isI _ _ _); refine isI_in ?_) | ((with_reducible show isTup _ _); refine isTup_in ?_) | ((with_reducible show isS _ _); refine isS_in ?_) | ((with_reducible show isB _ _); refine isB_in ?_))
      refine Hunk_spec L ok hB ?_
      unfold hunkOut
      repeat (first | ((with_reducible show opt _ _); refine opt_in rfl ?_) | ((with_reducible show isI _ _ _); refine isI_in ?_) | ((with_reducible show isTup _ _); refine isTup_in ?_) | ((with_reducible show isS _ _); refine isS_in ?_) | ((with_reducible show isB _ _); refine isB_in ?_))
      refine opt_in (idx_ro tab37 h1 rfl) ?_
      repeat (first | ((with_reducible show opt _ _); refine opt_in rfl ?_) | ((with_reducible show isI _ _ _); refine isI_in ?_) | ((with_reducible show isTup _ _); refine isTup_in ?_) | ((with_reducible show isS _ _); refine isS_in ?_) | ((with_reducible show isB _ _); refine isB_in ?_))
      refine rHunk_spec L ok hB ?_
      unfold hunkOutR v01
      repeat (first | ((with_reducible show opt _ _); refine opt_in rfl ?_) | ((with_reducible show isI _ _ _); refine isI_in ?_) | ((with_reducible show isTup _ _); refine isTup_in ?_) | ((with_reducible show isS _ _); refine isS_in ?_) | ((with_reducible show isB _ _); refine isB_in ?_))
      rw [condB_not, condB_sbeq, if_pos rfl, vErr_errA]
      refine num11 L (isI_in ?_)
      have fin : ∀ t, t = false → selvagelaw11_UnifiedPrints.n35 (selvagelaw11_UnifiedPrints.X w0 0) w0 0 (fun r' _ => r' = .pv (.bool true)) (nmS p s p' s') (hnksA l) k t := by
        rintro t rfl
        refine selvagelaw11_UnifiedPrints.n35_in ?_
        rw [selvagelaw11_UnifiedPrints.b35_eq, condB_false', wrap_next (n := l.length) (by omega) (by omega)]
        exact ih'
      exact fin _ (by simp)
    exact key _
theorem prints_law (L : Laid w0.w) {p s p' s' : List UInt8} {l : List Hnk} (o : PrOK p s p' s' l) : SCalls (cx w0) selvagelaw11_UnifiedPrints.id [.pv (nmP p s), .pv (nmP p' s'), hnksA l] [] fun r _ => r = .pv (.bool true) := by
  have hrows : ∀ x ∈ l, x.rows.length ≤ 1048576 := fun x hx => (o.ok x hx).rows
  have fin : ∀ t, t = false → selvagelaw11_UnifiedPrints.n11 (selvagelaw11_UnifiedPrints.X w0 0) w0 0 (fun r' _ => r' = .pv (.bool true)) (nmS p s p' s') (hnksA l) t := by
    rintro t rfl
    refine selvagelaw11_UnifiedPrints.n11_in ?_
    rw [selvagelaw11_UnifiedPrints.b11_eq, condB_false']
    exact prints_loop L p s p' s' l o l 0 rfl (fun h hh => ⟨o.ok h hh, o.one h hh⟩)
  refine selvagelaw11_UnifiedPrints.calls ?_
  rw [selvagelaw11_UnifiedPrints.b0_eq]
  refine ⟨rfl, rfl, ?_⟩
  refine twin_spec L o.len hrows ?_
  repeat (first | ((with_reducible show opt _ _); refine opt_in rfl ?_) | ((with_reducible show isI _ _ _); refine isI_in ?_) | ((with_reducible show isTup _ _); refine isTup_in ?_) | ((with_reducible show isS _ _); refine isS_in ?_) | ((with_reducible show isB _ _); refine isB_in ?_))
  refine Print_spec L o ?_
  unfold printOut
  repeat (first | ((with_reducible show opt _ _); refine opt_in rfl ?_) | ((with_reducible show isI _ _ _); refine isI_in ?_) | ((with_reducible show isTup _ _); refine isTup_in ?_) | ((with_reducible show isS _ _); refine isS_in ?_) | ((with_reducible show isB _ _); refine isB_in ?_))
  refine rPrint_spec L o ?_
  unfold printOutR
  repeat (first | ((with_reducible show opt _ _); refine opt_in rfl ?_) | ((with_reducible show isI _ _ _); refine isI_in ?_) | ((with_reducible show isTup _ _); refine isTup_in ?_) | ((with_reducible show isS _ _); refine isS_in ?_) | ((with_reducible show isB _ _); refine isB_in ?_))
  rw [condB_not, condB_sbeq, if_pos rfl]
  refine num11 L (isI_in ?_)
  rw [condB_ibne, if_pos rfl]
  refine same_spec L o.len hrows (isB_in ?_)
  exact fin _ rfl
open Go.Proofs.YtjonnhjaiiingaaGreatDoor in
theorem name_data {d : Nat} {q : PV} (h : hasT tabS (d + 2) 23 q) : ∃ p s, q = nmP p s := by
  obtain ⟨qs, rfl, g⟩ := hasT_struct tab23 ti23_td h
  obtain ⟨_, qs, rfl, h1, h⟩ := fields_cons g
  obtain ⟨_, qs, rfl, h2, h⟩ := fields_cons h
  obtain rfl := fields_nil h
  obtain ⟨p, rfl, _⟩ := hasT_str tab9 ti9_td h1
  obtain ⟨s, rfl, _⟩ := hasT_str tab9 ti9_td h2
  exact ⟨p, s, rfl⟩
open Go.Proofs.YtjonnhjaiiingaaGreatDoor in
theorem UnifiedPrints_spec {w0 : Base} (L : Laid w0.w) {H : Type} {d0 d1 d2 : DataW H} {ds : List (DataW H)} (hT : hasT tabS 12 23 (toPV d0)) (hU : hasT tabS 12 23 (toPV d1)) (hV : hasT tabS 12 24 (toPV d2)) (hk : Rows.uptoSmall H (d0 :: d1 :: d2 :: ds) = true) : SCalls (cx w0) selvagelaw11_UnifiedPrints.id [.pv (toPV d0), .pv (toPV d1), .pv (toPV d2)] [] fun r _ => r = .pv (.bool true) := by
  obtain ⟨p, s, e⟩ := name_data hT
  obtain ⟨p', s', e'⟩ := name_data hU
  obtain ⟨xs, e'', hx⟩ := hasT_slice tab24 ti24_td hV
  obtain ⟨l, rfl, hl⟩ := hnk_list xs hx
  have hb : Rows.uptoBulkAll (d0 :: d1 :: d2 :: ds) ≤ 1048576 := of_decide_eq_true hk
  have h0 := pvB_le d0
  have h1 := pvB_le d1
  have h2 := pvB_le d2
  simp only [Rows.uptoBulkAll] at hb
  rw [e] at h0
  rw [e'] at h1
  rw [e''] at h2
  simp only [pvB, pvBs] at h0 h1 h2
  obtain ⟨g1, g2⟩ := hnks_ok (B := 1048576) (Nat.le_refl _) (by omega) hl
  rw [e, e', e'']
  exact prints_law L ⟨by omega, by omega, by omega, by omega, g1, g2, by omega⟩
end
end Go.Sv
