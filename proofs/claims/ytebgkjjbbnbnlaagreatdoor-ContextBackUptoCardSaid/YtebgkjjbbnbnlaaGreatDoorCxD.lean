/- What the code of package context answers where it prints: a hunk, a file's hunks. What is printed is read again: headers and numbers of a context diff, as plain lists. What is printed is read again: the lines of a part, as plain lists. What the code of Go functions comes to over abstract stores, piece by piece; each equation by the kernel. Printed by a program of this session. -/
import Derived.Test.YtebgkjjbbnbnlaaGreatDoorCxB
import Derived.Test.YtebgkjjbbnbnlaaGreatDoorCxX
import Derived.Test.YtebgkjjbbnbnlaaGreatDoorSvBk
import Derived.Test.YtebgkjjbbnbnlaaGreatDoorSvT
import Derived.KernelRfl
set_option linter.unusedVariables false
set_option linter.unusedSimpArgs false
set_option maxRecDepth 100000
section
namespace Go.Sv
section
open Go Go.RowKit Go.Proofs
variable {w0 : Base} {σ : Store} {R : AV → Store → Prop}
abbrev starsF : List UInt8 := [42, 42, 42, 42, 42, 42, 42, 42, 42, 42, 42, 42, 42, 42, 42]
def Q6 (h : Hnk) : List UInt8 := if h.head = [] then starsF else starsF ++ ([32] ++ h.head)
def X4 (h : Hnk) : List UInt8 := (((Q6 h ++ (([10, 42, 42, 42, 32] ++ spanC h.a h.n) ++ [32, 42, 42, 42, 42, 10])) ++ partF 2 h.rows (H1 h.rows.length h.rows)) ++ (([45, 45, 45, 32] ++ spanC h.b h.m) ++ [32, 45, 45, 45, 45, 10])) ++ partF 3 h.rows (H1 h.rows.length h.rows)
theorem cheadF_len (h : Hnk) : (Q6 h).length ≤ 16 + h.head.length := by
  unfold Q6; split
  · simp; omega
  · simp only [List.length_append, List.length_cons, List.length_nil]; omega
theorem chunkF_len {h : Hnk} (hv : H0 h = true) (ok : HnkOK h) : (X4 h).length ≤ 300 * pvB (hnkP h) := by
  obtain ⟨v1, v2, v3, v4⟩ := valid_small hv ok
  have e1 := spanC_len (a := h.a) (n := h.n) v1.1 v1.2 v2.1 v2.2
  have e2 := spanC_len (a := h.b) (n := h.m) v3.1 v3.2 v4.1 v4.2
  have e3 := partF_len 2 h.rows (H1 h.rows.length h.rows)
  have e4 := partF_len 3 h.rows (H1 h.rows.length h.rows)
  have e5 := cheadF_len h
  unfold X4
  simp only [List.length_append, List.length_cons, List.length_nil, pvB, pvBs]
  omega
def chunkOut (h : Hnk) : AV := .tup [.pv (.str (if H0 h = true then X4 h else [])), vErr (H0 h)]
theorem chunkOut_under (h : Hnk) : AV.under 0 (chunkOut h) = true := by unfold chunkOut vErr; split <;> rfl
theorem cHunk_spec (L : Laid w0.w) {h : Hnk} (ok : HnkOK h) (hB : pvB (hnkP h) ≤ 8388608) (hR : R (chunkOut h) σ) : A1 (cx w0) J6.id [.pv (hnkP h)] σ R := by
  refine A1.alone L rfl (fun w1 L1 => ?_) (chunkOut_under h) hR
  refine J6.calls ?_
  rw [J6.b0_eq]
  refine ⟨rfl, ?_⟩
  repeat ((with_reducible first | apply A0 | apply wI | apply wT | apply wP | apply wS | apply wB); exact rfl)
  refine Valid_spec L1 (Nat.le_trans ok.rows (by decide)) (fun x hx => Nat.le_trans (ok.text x hx) (by decide)) (Nat.le_trans ok.head (by decide)) ok.a ok.b ?_
  cases hv : H0 h with
  | false =>
    rw [vErr, if_neg (by decide), Q3]
    refine A0 rfl (A0 (v := false) rfl (F5 ?_))
    rw [Bool.not_false, M5]
    refine C5 (Nat.zero_le _) ?_
    unfold chunkOut
    rw [hv]; rfl
  | true =>
    rw [vErr, if_pos rfl, Q3]
    refine A0 rfl (A0 (v := true) rfl (F5 ?_))
    rw [Bool.not_true, I5]
    obtain ⟨v1, v2, v3, v4⟩ := valid_small hv ok
    have e1 := spanC_len (a := h.a) (n := h.n) v1.1 v1.2 v2.1 v2.2
    have e2 := spanC_len (a := h.b) (n := h.m) v3.1 v3.2 v4.1 v4.2
    obtain ⟨hm, _⟩ := marks_at h.rows.length [] h.rows (Nat.le_refl _) (.inl rfl)
    have e3 := partL_len 2 h.rows (H1 h.rows.length h.rows)
    have e4 := partL_len 3 h.rows (H1 h.rows.length h.rows)
    have e3' := partF_len 2 h.rows (H1 h.rows.length h.rows)
    have e5 := cheadF_len h
    have e6 := ok.head
    have hB' : pvBs (h.rows.map rowP) ≤ 8388608 := by simp only [pvB, pvBs] at hB; omega
    have fin : ∀ s, s = Q6 h → J6.n22 (J6.X w1 0) w1 0 (fun r' _ => r' = chunkOut h) (ptS h s) (.ptr 0 0) (.ptr 1 0) := by
      rintro s rfl
      refine J6.n22_in ?_
      rw [J6.b22_eq]
      repeat ((with_reducible first | apply A0 | apply wI | apply wT | apply wP | apply wS | apply wB); exact rfl)
      refine marks_spec L1 ok.rows ?_
      repeat ((with_reducible first | apply A0 | apply wI | apply wT | apply wP | apply wS | apply wB); exact rfl)
      refine cspan_spec L1 v1.1 v1.2 v2.1 v2.2 (I0 ⟨by simp only [List.length_cons, List.length_nil]; omega, by simp only [List.length_append, List.length_cons, List.length_nil]; omega, ?_⟩)
      refine E8 (id := 1) rfl (by simp only [List.length_append, List.length_cons, List.length_nil]; omega) ?_
      repeat ((with_reducible first | apply A0 | apply wI | apply wT | apply wP | apply wS | apply wB); exact rfl)
      refine part_spec (C := h) ok.rows ok.text hm (by simp only [List.length_append, List.length_cons, List.length_nil]; omega) ?_
      repeat ((with_reducible first | apply A0 | apply wI | apply wT | apply wP | apply wS | apply wB); exact rfl)
      refine cspan_spec L1 v3.1 v3.2 v4.1 v4.2 (I0 ⟨by simp only [List.length_cons, List.length_nil]; omega, by simp only [List.length_append, List.length_cons, List.length_nil]; omega, ?_⟩)
      refine E8 (id := 1) rfl (by simp only [List.length_append, List.length_cons, List.length_nil]; omega) ?_
      repeat ((with_reducible first | apply A0 | apply wI | apply wT | apply wP | apply wS | apply wB); exact rfl)
      refine part_spec (C := h) ok.rows ok.text hm (by simp only [List.length_append, List.length_cons, List.length_nil]; omega) ?_
      refine V2 rfl (I0 (C5 (Nat.zero_le _) ?_))
      unfold chunkOut
      rw [hv]; rfl
    refine E8 (id := 1) rfl (by simp only [List.length_cons, List.length_nil]; omega) ?_
    repeat ((with_reducible first | apply A0 | apply wI | apply wT | apply wP | apply wS | apply wB); exact rfl)
    rw [E3, P0]
    refine B8 (fun g => fin _ ?_) (fun g => ?_)
    · rw [Q6, if_pos g]; rfl
    · repeat ((with_reducible first | apply A0 | apply wI | apply wT | apply wP | apply wS | apply wB); exact rfl)
      refine ⟨by simp only [List.length_cons, List.length_nil]; omega, ?_⟩
      refine E8 (id := 1) rfl (by simp only [List.length_append, List.length_cons, List.length_nil]; omega) (fin _ ?_)
      rw [Q6, if_neg g]; rfl
def cnamesF (p s p' s' : List UInt8) : List UInt8 := (([42, 42, 42, 32] ++ (J5 p s ++ [10])) ++ [45, 45, 45, 32]) ++ (J5 p' s' ++ [10])
def Q7 (p s p' s' : List UInt8) (l : List Hnk) : List UInt8 := cnamesF p s p' s' ++ l.flatMap X4
def X3 (p s p' s' : List UInt8) (l : List Hnk) : AV := .tup [.pv (.str (if O8 p s p' s' l = 0 then Q7 p s p' s' l else [])), errA (O8 p s p' s' l)]
theorem cprintOut_under (p s p' s' : List UInt8) (l : List Hnk) : AV.under 0 (X3 p s p' s' l) = true := by unfold X3 errA; split <;> rfl
theorem flat_chunks_len : ∀ l : List Hnk, (∀ h ∈ l, HnkOK h) → l.all H0 = true → (l.flatMap X4).length ≤ 300 * pvBs (l.map hnkP)
  | [], _, _ => by simp
  | h :: l, ok, hv => by
    rw [List.all_cons, Bool.and_eq_true] at hv
    have ih := flat_chunks_len l (fun x hx => ok x (List.mem_cons_of_mem _ hx)) hv.2
    have := chunkF_len hv.1 (ok h (by simp))
    simp only [List.flatMap_cons, List.length_append, List.map_cons]
    rw [pvBs]
    omega
theorem split_head {p s p' s' : Ln} {l : List Hnk} (h1 : L2 p s = true) (h2 : L2 p' s' = true) : ∃ r, I2 (printF p s p' s' l) = ([45, 45, 45, 32] ++ (J5 p s ++ [10])) :: ([43, 43, 43, 32] ++ (J5 p' s' ++ [10])) :: r := by
  have e : printF p s p' s' l = ([45, 45, 45, 32] ++ (J5 p s ++ [10])) ++ (([43, 43, 43, 32] ++ (J5 p' s' ++ [10])) ++ l.flatMap hunkF) := by unfold printF; simp
  have l1 := N4 [45, 45, 45, 32] _ (by decide) (N4 _ [10] (shown_no10 h1) rfl)
  have l2 := N4 [43, 43, 43, 32] _ (by decide) (N4 _ [10] (shown_no10 h2) rfl)
  have w1 : endB ([45, 45, 45, 32] ++ (J5 p s ++ [10])) = true := by unfold endB; rw [K8 (by simp), K8 (by simp)]; rw [Bool.or_eq_true]; exact .inr rfl
  have w2 : endB ([43, 43, 43, 32] ++ (J5 p' s' ++ [10])) = true := by unfold endB; rw [K8 (by simp), K8 (by simp)]; rw [Bool.or_eq_true]; exact .inr rfl
  rw [e, U4 _ _ w1, U4 _ _ w2, splitF_line _ l1, splitF_line _ l2]
  exact ⟨_, rfl⟩
theorem slice_lns2 {σ : Store} {ls : List Ln} {k : Nat} (h : k ≤ ls.length) : I1 σ tabS ti53.td (.pv (lnsP ls)) none (some (.pv (.int .i64 (k : Int)))) = some (.pv (lnsP (ls.take k))) := by
  show (if (0 : Int) ≤ 0 ∧ (0 : Int) ≤ (k : Int) ∧ (k : Int) ≤ (((ls.map PV.str).length : Nat) : Int) then (if sized 1 (ls.map PV.str) = true then some (AV.pv (.sl (((ls.map PV.str).take (k : Int).toNat).drop (0 : Int).toNat))) else none) else none) = _
  have e : sized 1 (ls.map PV.str) = true := by
    simp only [sized, List.all_eq_true, List.mem_map]
    rintro x ⟨r, _, rfl⟩
    rfl
  rw [if_pos (by rw [List.length_map]; omega), if_pos e]
  simp
abbrev nmB (p s p' s' acc : List UInt8) : Store := nmS p s p' s' ++ [.bld tyB 5 acc]
theorem cprint_loop (L : Laid w0.w) (p s p' s' : List UInt8) (xs : List PV) (hx : xs.length ≤ 1048576) (v : AV) : ∀ (r : List Hnk) (k : Nat) (acc : List UInt8), xs.drop k = r.map hnkP → (∀ h ∈ r, HnkOK h ∧ pvB (hnkP h) ≤ 8388608) → r.all H0 = true →
    acc.length + (r.flatMap X4).length ≤ 140737488355328 → v = .tup [.pv (.str (acc ++ r.flatMap X4)), .pv (.raw .nilIface)] →
    F4.n22 (F4.X w0 0) w0 0 (fun r' _ => r' = v) (nmB p s p' s' acc) (.ptr 2 0) (.pv (.sl xs)) xs.length k
  | [], k, acc, hd, _, _, _, hv => by
    have hk := M0 hd
    refine F4.n22_in ?_
    rw [F4.b23_eq, A7, if_neg (by omega)]
    refine F4.n45_in ?_
    rw [F4.b45_eq]
    refine V2 rfl (I0 (C5 (Nat.zero_le _) ?_))
    rw [hv]; simp
  | h :: r, k, acc, hd, ok, hva, hl, hv => by
    obtain ⟨h1, h2, hk⟩ := H4 hd
    obtain ⟨o1, o2⟩ := ok h (by simp)
    rw [List.all_cons, Bool.and_eq_true] at hva
    simp only [List.flatMap_cons, List.length_append] at hl
    refine F4.n22_in ?_
    rw [F4.b23_eq, A7, if_pos (by omega)]
    refine A0 (K7 tab39 h1 rfl) ?_
    repeat ((with_reducible first | apply A0 | apply wI | apply wT | apply wP | apply wS | apply wB); exact rfl)
    refine cHunk_spec L (h := h) o1 o2 ?_
    unfold chunkOut vErr
    rw [hva.1, if_pos rfl, if_pos rfl]
    repeat ((with_reducible first | apply A0 | apply wI | apply wT | apply wP | apply wS | apply wB); exact rfl)
    rw [Q3]
    refine A0 rfl (A0 (v := true) rfl (F5 ?_))
    rw [Bool.not_true, I5]
    refine E8 (id := 2) rfl (by omega) ?_
    rw [I3 hk (by omega)]
    refine F4.n22_weak (EWeak.drop (τ := nmB p s p' s' (acc ++ X4 h)) glob0 (Nat.zero_le _) rfl rfl) ?_
    exact cprint_loop L p s p' s' xs hx v r (k + 1) _ h2 (fun x hx => ok x (List.mem_cons_of_mem _ hx)) hva.2 (by simp only [List.length_append]; omega) (by rw [hv, List.flatMap_cons, List.append_assoc])
theorem cPrint_spec (L : Laid w0.w) {p s p' s' : List UInt8} {l : List Hnk} (o : PrOK p s p' s' l) (hR : R (X3 p s p' s' l) σ) : A1 (cx w0) F4.id [.pv (nmP p s), .pv (nmP p' s'), hnksA l] σ R := by
  refine A1.alone L rfl (fun w1 L1 => ?_) (cprintOut_under p s p' s' l) hR
  have q1 := shownF_len (p := p) (s := s)
  have q2 := shownF_len (p := p') (s := s')
  have o1 := o.p
  have o2 := o.s
  have o3 := o.p'
  have o4 := o.s'
  have hx : (l.map hnkP).length ≤ 1048576 := by rw [List.length_map]; exact o.len
  refine F4.calls ?_
  rw [F4.b0_eq]
  refine ⟨rfl, rfl, ?_⟩
  repeat ((with_reducible first | apply A0 | apply wI | apply wT | apply wP | apply wS | apply wB); exact rfl)
  refine Print_spec L1 o ?_
  unfold T2 errA
  by_cases hf : O8 p s p' s' l = 0
  · rw [if_pos hf, if_pos hf]
    repeat ((with_reducible first | apply A0 | apply wI | apply wT | apply wP | apply wS | apply wB); exact rfl)
    rw [Q3]
    refine A0 rfl (A0 (v := true) rfl (F5 ?_))
    rw [Bool.not_true, I5]
    obtain ⟨g1, g2, g3⟩ : (L2 p s = true ∧ L2 p' s' = true) ∧ l.all H0 = true ∧ inOrd l = true := by
      unfold O8 at hf
      split at hf
      · cases hf
      · rename_i g1
        split at hf
        · cases hf
        · rename_i g2
          split at hf
          · cases hf
          · rename_i g3
            exact ⟨by rw [← Bool.and_eq_true]; simpa using g1, by simpa using g2, by simpa using g3⟩
    have ob := o.bulk
    have fl := flat_hunks_len l o.ok g2
    have flc := flat_chunks_len l o.ok g2
    have hpl : (printF p s p' s' l).length ≤ 1099511627776 := by
      unfold printF; simp only [List.length_append, List.length_cons, List.length_nil]; omega
    refine Split_spec L1 hpl ?_
    obtain ⟨r, hr⟩ := split_head (l := l) g1.1 g1.2
    rw [hr]
    refine A0 (slice_lns2 (k := 2) (by simp)) ?_
    refine A0 (K7 (k := 0) tab9 rfl rfl) ?_
    repeat ((with_reducible first | apply A0 | apply wI | apply wT | apply wP | apply wS | apply wB); exact rfl)
    refine A0 (J9 (k := 4) (by simp)) (I0 ?_)
    have e1 : ([45, 45, 45, 32] ++ (J5 p s ++ [10])).drop 4 = J5 p s ++ [10] := rfl
    rw [e1]
    refine ⟨by simp only [List.length_append, List.length_cons, List.length_nil]; omega, by simp only [List.length_append, List.length_cons, List.length_nil]; omega, ?_⟩
    refine A0 (K7 (k := 1) tab9 rfl rfl) ?_
    repeat ((with_reducible first | apply A0 | apply wI | apply wT | apply wP | apply wS | apply wB); exact rfl)
    refine A0 (J9 (k := 4) (by simp)) (I0 ?_)
    have e2 : ([43, 43, 43, 32] ++ (J5 p' s' ++ [10])).drop 4 = J5 p' s' ++ [10] := rfl
    rw [e2]
    refine ⟨by simp only [List.length_append, List.length_cons, List.length_nil]; omega, ?_⟩
    refine E8 (id := 2) rfl (by simp only [List.length_append, List.length_cons, List.length_nil]; omega) ?_
    repeat ((with_reducible first | apply A0 | apply wI | apply wT | apply wP | apply wS | apply wB); exact rfl)
    refine cprint_loop L1 p s p' s' (l.map hnkP) hx _ l 0 (cnamesF p s p' s') rfl (fun h hh => ⟨o.ok h hh, o.one h hh⟩) g2 (by unfold cnamesF; simp only [List.length_append, List.length_cons, List.length_nil]; omega) ?_
    unfold X3 errA
    rw [if_pos hf, if_pos hf]; rfl
  · rw [if_neg hf, if_neg hf]
    repeat ((with_reducible first | apply A0 | apply wI | apply wT | apply wP | apply wS | apply wB); exact rfl)
    rw [Q3]
    refine A0 rfl (A0 (v := false) rfl (F5 ?_))
    rw [Bool.not_false, M5]
    refine C5 (Nat.zero_le _) ?_
    unfold X3 errA
    rw [if_neg hf, if_neg hf]
end
end Go.Sv
end
section
namespace Go.Sv
theorem nameC_back {mark p s : Ln} {r : List Ln} (h : L2 p s = true) : nameC mark ((mark ++ (J5 p s ++ [10])) :: r) = some (p, s) := by
  have hb : bareB (mark ++ (J5 p s ++ [10])) = mark ++ J5 p s := by rw [← List.append_assoc, bareB_end]
  have hc : cutF (mark ++ J5 p s) mark = (J5 p s, true) := by
    unfold cutF
    rw [if_pos (by simp [Lib.hasPrefix]), List.drop_left]
  have hu : unqF (J5 p s) = some (p, if s = [] then [] else 9 :: s) := by
    unfold J5
    by_cases e : s = []
    · rw [if_pos e, if_pos e]
      have := unq_quote (p := p) (rest := []) (.inl rfl)
      rwa [List.append_nil] at this
    · rw [if_neg e, if_neg e, List.append_assoc]
      exact unq_quote (p := p) (.inr ⟨s, rfl⟩)
  unfold nameC
  have hn : nowF ((mark ++ (J5 p s ++ [10])) :: r) = (mark ++ J5 p s, true) := by
    show (bareB (mark ++ (J5 p s ++ [10])), true) = _
    rw [hb]
  rw [hn]
  simp only
  rw [hc]
  simp only
  rw [hu]
  by_cases e : s = []
  · subst e; simp [cutF, Lib.hasPrefix]
  · have h9 : cutF (9 :: s) [9] = (s, true) := by
      unfold cutF
      rw [if_pos (by simp [Lib.hasPrefix, List.isPrefixOf])]
      rfl
    simp only [if_neg e, h9]
    simp
theorem dec_dig (d : Nat) (h : d < 10) : (UInt8.ofNat (48 + d)).toNat = 48 + d := UInt8.toNat_ofNat_of_lt' (show 48 + d < 256 by omega)
theorem dec_facts : ∀ (u : Nat), (Lib.decDigits u).all isDig = true ∧ decV (Lib.decDigits u) = u ∧ (0 < u → ∃ c r, Lib.decDigits u = c :: r ∧ c ≠ 48) ∧ ∀ k, 1 ≤ k → u < 10 ^ k → (Lib.decDigits u).length ≤ k := by
  intro u
  induction u using Nat.strongRecOn with
  | ind u ih =>
    rw [Lib.decDigits]
    split
    · rename_i h
      refine ⟨?_, ?_, fun h0 => ⟨_, [], rfl, fun e => ?_⟩, fun k h1 _ => by simpa using h1⟩
      · simp only [List.all_cons, List.all_nil, Bool.and_true, isDig, dec_dig u h, Bool.and_eq_true, decide_eq_true_eq]; omega
      · simp only [decV, List.foldl_cons, List.foldl_nil, dec_dig u h]; omega
      · have := congrArg UInt8.toNat e
        rw [dec_dig u h] at this
        have : 48 + u = 48 := this
        omega
    · rename_i h
      obtain ⟨i1, i2, i3, i4⟩ := ih (u / 10) (by omega)
      have hd := dec_dig (u % 10) (by omega)
      refine ⟨?_, ?_, fun h0 => ?_, fun k h1 h2 => ?_⟩
      · rw [List.all_append, i1]
        simp only [List.all_cons, List.all_nil, Bool.and_true, isDig, hd, Bool.true_and, Bool.and_eq_true, decide_eq_true_eq]; omega
      · unfold decV at i2 ⊢
        rw [List.foldl_append, i2]
        simp only [List.foldl_cons, List.foldl_nil, hd]; omega
      · obtain ⟨c, r, e, hc⟩ := i3 (by omega)
        exact ⟨c, r ++ [UInt8.ofNat (48 + u % 10)], by rw [e]; rfl, hc⟩
      · cases k with
        | zero => omega
        | succ k =>
          have hk : 1 ≤ k := by
            cases k with
            | zero => simp at h2; omega
            | succ k => omega
          have := i4 k hk (by rw [Nat.pow_succ] at h2; omega)
          rw [List.length_append, List.length_singleton]; omega
theorem numC_itoa {a : Int} (h0 : 0 ≤ a) (h1 : a ≤ 2147483647) : numC (Lib.itoa a) = (a, true) := by
  obtain ⟨u, rfl⟩ : ∃ u : Nat, a = u := ⟨a.toNat, by omega⟩
  have e : Lib.itoa (u : Int) = Lib.decDigits u := by unfold Lib.itoa; rw [if_neg (by omega)]; simp
  obtain ⟨d1, d2, d3, d4⟩ := dec_facts u
  have hne : ¬ (Lib.decDigits u = [] ∨ (Lib.decDigits u).all isDig = false) := by
    rintro (h | h)
    · have := dec_pos u; rw [h] at this; exact absurd this (by decide)
    · rw [d1] at h; cases h
  rw [e]
  unfold numC
  rw [if_neg hne]
  rcases Nat.eq_zero_or_pos u with rfl | hu
  · have : Lib.decDigits 0 = [48] := by rw [Lib.decDigits]; rfl
    rw [this]
    rfl
  · obtain ⟨c, r, e2, hc⟩ := d3 hu
    have hdw : (Lib.decDigits u).dropWhile (· == 48) = Lib.decDigits u := by
      rw [e2, List.dropWhile_cons, if_neg (by simpa using hc)]
    have h10 := d4 10 (by omega) (by omega)
    rw [hdw, if_neg (by omega), d2]
    simp only [Prod.mk.injEq, true_and, decide_eq_true_eq]
    exact h1
theorem idx_no : ∀ (l : Ln) (c : UInt8), (∀ x ∈ l, x ≠ c) → Lib.indexByte l c = -1
  | [], _, _ => rfl
  | b :: l, c, h => by
    have ih := idx_no l c (fun x hx => h x (List.mem_cons_of_mem _ hx))
    rw [Lib.indexByte, if_neg (by simpa using h b (by simp)), ih]
    rfl
theorem idx_first : ∀ (l : Ln) (c : UInt8) (r : Ln), (∀ x ∈ l, x ≠ c) → Lib.indexByte (l ++ c :: r) c = (l.length : Int)
  | [], c, r, _ => by
    show Lib.indexByte (c :: r) c = 0
    rw [Lib.indexByte, if_pos (by simp)]
  | b :: l, c, r, h => by
    have ih := idx_first l c r (fun x hx => h x (List.mem_cons_of_mem _ hx))
    rw [List.cons_append, Lib.indexByte, if_neg (by simpa using h b (by simp)), ih, if_neg (by simp)]
    simp only [List.length_cons]; omega
theorem cut1_no {l : Ln} {c : UInt8} (h : ∀ x ∈ l, x ≠ c) : cut1F l c = (l, [], false) := by
  unfold cut1F
  rw [idx_no l c h, if_neg (by omega)]
theorem cut1_first {l r : Ln} {c : UInt8} (h : ∀ x ∈ l, x ≠ c) : cut1F (l ++ c :: r) c = (l, r, true) := by
  unfold cut1F
  rw [idx_first l c r h, if_pos (by omega)]
  simp
theorem itoa_no44 {a : Int} (h0 : 0 ≤ a) : ∀ x ∈ Lib.itoa a, x ≠ 44 := by
  obtain ⟨u, rfl⟩ : ∃ u : Nat, a = u := ⟨a.toNat, by omega⟩
  have e : Lib.itoa (u : Int) = Lib.decDigits u := by unfold Lib.itoa; rw [if_neg (by omega)]; simp
  rw [e]
  intro x hx h
  have := List.all_eq_true.1 (dec_facts u).1 x hx
  rw [h] at this
  exact absurd this (by decide)
theorem spanR_back {before behind : Ln} {a n : Int} {r : List Ln} (h0 : 0 ≤ a) (h1 : a ≤ 2147483647) (h2 : 0 ≤ n) (h3 : a + n - 1 ≤ 2147483647) :
    spanR before behind ((before ++ (spanC a n ++ (behind ++ [10]))) :: r) = some ⟨a, if n < 2 then 1 else n, decide (2 ≤ n)⟩ := by
  have hb : bareB (before ++ (spanC a n ++ (behind ++ [10]))) = before ++ (spanC a n ++ behind) := by
    rw [← List.append_assoc (spanC a n), ← List.append_assoc before, bareB_end]
  have hn : nowF ((before ++ (spanC a n ++ (behind ++ [10]))) :: r) = (before ++ (spanC a n ++ behind), true) := by
    show (bareB (before ++ (spanC a n ++ (behind ++ [10]))), true) = _
    rw [hb]
  have hc : cutF (before ++ (spanC a n ++ behind)) before = (spanC a n ++ behind, true) := by
    unfold cutF
    rw [if_pos (by simp [Lib.hasPrefix]), List.drop_left]
  have hs : V9 (spanC a n ++ behind) behind = (spanC a n, true) := by
    unfold V9
    rw [if_pos (by simp [Lib.hasSuffix])]
    simp
  have hS : spanS before behind ((before ++ (spanC a n ++ (behind ++ [10]))) :: r) = (spanC a n, true) := by
    unfold spanS
    rw [hn]
    simp only
    rw [hc, if_pos rfl, hs]
  unfold spanR
  rw [hS]
  simp only
  unfold spanC spanL
  by_cases g : n < 2
  · rw [if_pos g, cut1_no (itoa_no44 h0)]
    simp only [Bool.false_eq_true, if_false]
    rw [numC_itoa h0 h1, if_pos ⟨by trivial, by trivial, by trivial, by simp⟩, if_pos g]
    simp only [Option.some.injEq, Rng.mk.injEq, true_and]
    exact ⟨by omega, (decide_eq_false (by omega)).symm⟩
  · rw [if_neg g, List.append_assoc, List.singleton_append, cut1_first (itoa_no44 h0)]
    simp only [if_true]
    rw [numC_itoa h0 h1, numC_itoa (show 0 ≤ a + n - 1 by omega) h3]
    simp only
    rw [if_pos ⟨by trivial, by trivial, by trivial, by omega⟩, if_neg g]
    simp only [Option.some.injEq, Rng.mk.injEq, true_and]
    exact ⟨by omega, (decide_eq_true (by omega)).symm⟩
end Go.Sv
end
section
namespace Go.Sv
def Q8 (x : Mkd) : List Ln := if K4 x.t = true then [x.m :: 32 :: x.t] else [x.m :: 32 :: (x.t ++ [10]), missS]
theorem bareB_row {c : UInt8} {t : Ln} (h : K4 t = true) : bareB (c :: 32 :: t) = c :: 32 :: bareB t := by
  cases t with
  | nil => cases h
  | cons a r =>
    have e : K4 (c :: 32 :: a :: r) = true := by
      unfold K4 at h ⊢
      rw [List.getLast?_cons_cons, List.getLast?_cons_cons]
      exact h
    unfold bareB
    rw [if_pos e, if_pos h]
    rfl
theorem rowC_back {kind c : UInt8} {t : Ln} (hc : c = 32 ∨ c = kind ∨ c = 33) (h : K4 t = true) : rowC kind (c :: 32 :: t) = some ⟨c, t⟩ := by
  unfold rowC
  rw [bareB_row h]
  simp only
  rw [if_pos ⟨trivial, hc⟩]
  rfl
theorem no_miss {kind c : UInt8} {t : Ln} (hk : kind ≠ 92) (hc : c = 32 ∨ c = kind ∨ c = 33) (h : K4 t = true) : ¬ Lib.hasPrefix (bareB (c :: 32 :: t)) [92] = true := by
  rw [bareB_row h]
  have : c ≠ 92 := by
    rcases hc with rfl | rfl | rfl
    · decide
    · exact hk
    · decide
  simp only [Lib.hasPrefix, List.isPrefixOf, Bool.and_true, beq_iff_eq]
  exact fun e => this e.symm
theorem whole_end (t : Ln) : K4 (t ++ [10]) = true := by unfold K4; simp
theorem partC_back {kind : UInt8} {most : Int} {X : List Ln} (hk : kind ≠ 92) (hX : ∀ l ∈ X.head?, ¬ Lib.hasPrefix (bareB l) [92] = true ∧ rowC kind l = none) : ∀ (l out : List Mkd) (bare : Bool), (∀ x ∈ l, x.m = 32 ∨ x.m = kind ∨ x.m = 33) → (out.length : Int) + l.length ≤ most →
    partC kind most (l.flatMap Q8 ++ X) out bare = (out ++ l, X)
  | [], out, bare, _, _ => by
    rw [List.flatMap_nil, List.nil_append, List.append_nil]
    cases X with
    | nil => rfl
    | cons x r =>
      obtain ⟨h1, h2⟩ := hX x rfl
      rw [partC, if_neg h1]
      split
      · rw [h2]
      · rfl
  | x :: l, out, bare, hm, hl => by
    have hc := hm x (by simp)
    simp only [List.length_cons] at hl
    have ih := fun b => partC_back (most := most) hk hX l (out ++ [x]) b (fun y hy => hm y (List.mem_cons_of_mem _ hy)) (by rw [List.length_append, List.length_singleton]; omega)
    have e : out ++ x :: l = (out ++ [x]) ++ l := by simp
    rw [List.flatMap_cons, e, List.append_assoc]
    unfold Q8
    by_cases hw : K4 x.t = true
    · rw [if_pos hw, List.singleton_append, partC, if_neg (no_miss hk hc hw), if_pos (by omega), rowC_back hc hw]
      exact ih false
    · rw [if_neg hw, List.cons_append, List.singleton_append, partC, if_neg (no_miss hk hc (whole_end _)), if_pos (by omega), rowC_back hc (whole_end _)]
      simp only
      rw [partC, if_pos (by decide), if_neg (by simp)]
      have hb : T6 (out ++ [⟨x.m, x.t ++ [10]⟩]) = out ++ [x] := by
        unfold T6
        simp only [List.getLast?_append, List.getLast?_singleton, Option.some_or, List.dropLast_concat]
        rw [bareB_end]
      rw [hb]
      exact ih true
end Go.Sv
end
section
namespace Go.Sv
open Go Go.Proofs
namespace C0
def lvs : List (List Nat) := [[0, 1], [0, 1], [0, 1], [0, 1], [0, 1, 5], [0, 1, 5], [0, 1, 5], [0, 1, 5, 6], [0, 1, 5, 6], [0, 1, 5, 6], [0, 1, 5, 6], [0, 1, 5, 6], [0, 1, 5, 6, 10], [0, 1, 5, 6], [5], [0, 1, 5, 6], [0, 1, 5, 6], [0, 1, 5, 6], [0, 1, 5, 6], [0, 1, 5, 6, 19], [0, 1, 5, 6], [0, 1, 5, 6], [0, 1, 5, 6], [5], [5], [4]]
def lv : Nat → List Nat := lvOf lvs
noncomputable def code : Code := E6 Tryz.f48
noncomputable def fe : FE := ⟨Tryz.f48, code, lv⟩
def cuts : List Nat := [9, 22, 23]
abbrev X (w0 : Base) (n : Nat) : XT := xr (cx w0) 28 lv n
theorem ok (w0 : Base) : FOK (cx w0) C0.id fe := ⟨Tryz.func48, by kernel_rfl, by kernel_rfl⟩
section
variable (Z : XT) (w0 : Base) (n : Nat) (R : RT) (σ : Store) (l_ : AV) (kind : Int) (out : AV) (i : Int)
def q5 : QT := thenQ (fun env σ => Z (cAt code 23) 23 (prune (lv 23) env) σ (finQ (cx w0) Tryz.f48 n R)) (finQ (cx w0) Tryz.f48 n R)
def q8 : QT := G0 0 (q5 Z w0 n R)
def q9 : QT := thenQ (fun env σ => Z (cAt code 8) 8 (prune (lv 8) env) σ (q8 Z w0 n R)) (q8 Z w0 n R)
def n8 : Prop :=
  Z (cAt code 8) 8 [(0, l_), (1, (.pv (.int .i64 kind))), (5, out), (6, (.pv (.int .i64 i)))] σ (q8 Z w0 n R)
def b9 : Prop :=
  A4 (cx w0) 28 lv n cuts Z (cAt code 9) 9 [(0, l_), (1, (.pv (.int .i64 kind))), (5, out), (6, (.pv (.int .i64 i)))] σ (q9 Z w0 n R)
def n22 : Prop :=
  Z (cAt code 22) 22 [(0, l_), (1, (.pv (.int .i64 kind))), (5, out), (6, (.pv (.int .i64 i)))] σ (q9 Z w0 n R)
def b22 : Prop :=
  A4 (cx w0) 28 lv n cuts Z (cAt code 22) 22 [(0, l_), (1, (.pv (.int .i64 kind))), (5, out), (6, (.pv (.int .i64 i)))] σ (q9 Z w0 n R)
def n23 : Prop :=
  Z (cAt code 23) 23 [(5, out)] σ (finQ (cx w0) Tryz.f48 n R)
def b23 : Prop :=
  A4 (cx w0) 28 lv n cuts Z (cAt code 23) 23 [(5, out)] σ (finQ (cx w0) Tryz.f48 n R)
def b0 : Prop :=
  A4 (cx w0) 28 lv n cuts Z code 0 (argsE 0 [l_, (.pv (.int .i64 kind))]) σ (finQ (cx w0) Tryz.f48 n R)
end
variable {Z : XT} {w0 : Base} {n : Nat} {R : RT} {σ τ : Store} {l_ out l_' out' : AV} {kind i kind' i' : Int}
theorem n8_in (h : b9 (X w0 n) w0 n R σ l_ kind out i) : n8 (X w0 n) w0 n R σ l_ kind out i := H5 (cxOK w0) (S := cuts) (by kernel_rfl : cAt code 8 = .loop (cAt code 9)) h
theorem n8_weak (e : EWeak (cx w0) n [(0, l_), (1, (.pv (.int .i64 kind))), (5, out), (6, (.pv (.int .i64 i)))] σ [(0, l_'), (1, (.pv (.int .i64 kind'))), (5, out'), (6, (.pv (.int .i64 i')))] τ) (h : n8 (X w0 n) w0 n R τ l_' kind' out' i') : n8 (X w0 n) w0 n R σ l_ kind out i := O3 (L := lv) (k := 8) (by kernel_rfl : cAt code 8 = .loop (cAt code 9)) e h
theorem b9_eq : b9 Z w0 n R σ l_ kind out i = (
  opt (aLen ti37.td l_) fun t9 => isI .i64 t9 fun t9_1 => condB (decide ((i : Int) < t9_1)) (opt (B6 σ tabS ti37.td l_ i) fun t15 => opt (A2 tabS ti51.td t15 0) fun t16 => opt (aLoad σ ti3 t16) fun t17 => isI .i64 t17 fun t17_1 => condB ((t17_1 : Int) == kind) (opt (B6 σ tabS ti37.td l_ i) fun t23 => opt (aLoad σ ti51 t23) fun t24 => opt2 (F9 σ ti51 false 1 [(0, t24)]) fun t25 σ' => opt2 (I7 σ' ti51 out t25) fun t26 σ'_1 => n22 Z w0 n R σ'_1 l_ kind t26 i) (n22 Z w0 n R σ l_ kind out i)) (n23 Z w0 n R σ out)) := by kernel_rfl
theorem b22_eq : b22 Z w0 n R σ l_ kind out i = (
  n8 Z w0 n R σ l_ kind out (IntKind.wrap .i64 (i + 1))) := by kernel_rfl
theorem n22_in (h : b22 (X w0 n) w0 n R σ l_ kind out i) : n22 (X w0 n) w0 n R σ l_ kind out i := xr_in (S := cuts) (by kernel_rfl) h
theorem b23_eq : b23 Z w0 n R σ out = (
  FinK (cx w0) n out σ R) := by kernel_rfl
theorem n23_in (h : b23 (X w0 n) w0 n R σ out) : n23 (X w0 n) w0 n R σ out := xr_in (S := cuts) (by kernel_rfl) h
theorem b0_eq : b0 Z w0 n R σ l_ kind = (
  n8 Z w0 n R σ l_ kind .nilsl 0) := by kernel_rfl
theorem calls (h : b0 (X w0 (List.length σ)) w0 (List.length σ) R σ l_ kind) : A1 (cx w0) C0.id [l_, (.pv (.int .i64 kind))] σ R :=
  D3 (cxOK w0) (x := fe) (S := cuts) (C0.ok w0) (by kernel_rfl) h
end C0
namespace B4
def lvs : List (List Nat) := [[0], [0], [0], [0], [0, 3, 4], [0, 3, 4], [0, 3, 4], [0, 3, 4, 5], [0, 3, 4, 5], [0, 3, 4, 5], [0, 3, 4, 5], [0, 3, 4, 5], [0, 3, 4, 5, 9], [0, 3, 4, 5], [3, 4], [0, 3, 4, 5], [0, 3, 4, 5], [0, 3, 4, 5], [0, 3, 4, 5], [0, 3, 4, 5], [0, 3, 4, 5, 25], [0, 3, 4, 5], [0, 3, 4, 5], [0, 3, 4, 5], [0, 3, 4, 5], [0, 3, 4, 5], [0, 3, 4, 5], [0, 3, 4, 5], [0, 3, 4, 5], [0, 3, 5], [0, 3, 5], [0, 3, 4, 5], [0, 3, 4, 5], [3, 4], [3, 4], [3, 4], [3, 4], [2]]
def lv : Nat → List Nat := lvOf lvs
noncomputable def code : Code := E6 Tryz.f18
noncomputable def fe : FE := ⟨Tryz.f18, code, lv⟩
def cuts : List Nat := [9, 20, 32, 33]
abbrev X (w0 : Base) (n : Nat) : XT := xr (cx w0) 56 lv n
theorem ok (w0 : Base) : FOK (cx w0) B4.id fe := ⟨Tryz.func18, by kernel_rfl, by kernel_rfl⟩
section
variable (Z : XT) (w0 : Base) (n : Nat) (R : RT) (σ : Store) (l_ out run : AV) (i : Int) (t25 : Bool)
def q5 : QT := thenQ (fun env σ => Z (cAt code 33) 33 (prune (lv 33) env) σ (finQ (cx w0) Tryz.f18 n R)) (finQ (cx w0) Tryz.f18 n R)
def q8 : QT := G0 0 (q5 Z w0 n R)
def q9 : QT := thenQ (fun env σ => Z (cAt code 8) 8 (prune (lv 8) env) σ (q8 Z w0 n R)) (q8 Z w0 n R)
def q16 : QT := thenQ (fun env σ => Z (cAt code 32) 32 (prune (lv 32) env) σ (q9 Z w0 n R)) (q9 Z w0 n R)
def q17 : QT := G0 1 (q16 Z w0 n R)
def q18 : QT := thenQ (fun env σ => A4 (cx w0) 56 lv n cuts Z (cAt code 25) 25 (prune (lv 25) env) σ (q17 Z w0 n R)) (q17 Z w0 n R)
def n8 : Prop :=
  Z (cAt code 8) 8 [(0, l_), (3, out), (4, run), (5, (.pv (.int .i64 i)))] σ (q8 Z w0 n R)
def b9 : Prop :=
  A4 (cx w0) 56 lv n cuts Z (cAt code 9) 9 [(0, l_), (3, out), (4, run), (5, (.pv (.int .i64 i)))] σ (q9 Z w0 n R)
def n20 : Prop :=
  Z (cAt code 20) 20 [(0, l_), (3, out), (4, run), (5, (.pv (.int .i64 i))), (25, (.pv (.bool t25)))] σ (q18 Z w0 n R)
def b20 : Prop :=
  A4 (cx w0) 56 lv n cuts Z (cAt code 20) 20 [(0, l_), (3, out), (4, run), (5, (.pv (.int .i64 i))), (25, (.pv (.bool t25)))] σ (q18 Z w0 n R)
def n32 : Prop :=
  Z (cAt code 32) 32 [(0, l_), (3, out), (4, run), (5, (.pv (.int .i64 i)))] σ (q9 Z w0 n R)
def b32 : Prop :=
  A4 (cx w0) 56 lv n cuts Z (cAt code 32) 32 [(0, l_), (3, out), (4, run), (5, (.pv (.int .i64 i)))] σ (q9 Z w0 n R)
def n33 : Prop :=
  Z (cAt code 33) 33 [(3, out), (4, run)] σ (finQ (cx w0) Tryz.f18 n R)
def b33 : Prop :=
  A4 (cx w0) 56 lv n cuts Z (cAt code 33) 33 [(3, out), (4, run)] σ (finQ (cx w0) Tryz.f18 n R)
def b0 : Prop :=
  A4 (cx w0) 56 lv n cuts Z code 0 (argsE 0 [l_]) σ (finQ (cx w0) Tryz.f18 n R)
end
variable {Z : XT} {w0 : Base} {n : Nat} {R : RT} {σ τ : Store} {l_ out run l_' out' run' : AV} {i i' : Int} {t25 : Bool}
theorem n8_in (h : b9 (X w0 n) w0 n R σ l_ out run i) : n8 (X w0 n) w0 n R σ l_ out run i := H5 (cxOK w0) (S := cuts) (by kernel_rfl : cAt code 8 = .loop (cAt code 9)) h
theorem n8_weak (e : EWeak (cx w0) n [(0, l_), (3, out), (4, run), (5, (.pv (.int .i64 i)))] σ [(0, l_'), (3, out'), (4, run'), (5, (.pv (.int .i64 i')))] τ) (h : n8 (X w0 n) w0 n R τ l_' out' run' i') : n8 (X w0 n) w0 n R σ l_ out run i := O3 (L := lv) (k := 8) (by kernel_rfl : cAt code 8 = .loop (cAt code 9)) e h
theorem b9_eq : b9 Z w0 n R σ l_ out run i = (
  opt (aLen ti37.td l_) fun t8 => isI .i64 t8 fun t8_1 => condB (decide ((i : Int) < t8_1)) (opt (B6 σ tabS ti37.td l_ i) fun t14 => opt (A2 tabS ti51.td t14 0) fun t15 => opt (aLoad σ ti3 t15) fun t16 => isI .i64 t16 fun t16_1 => condB ((t16_1 : Int) == 2) (n20 Z w0 n R σ l_ out run i true) (opt (B6 σ tabS ti37.td l_ i) fun t21 => opt (A2 tabS ti51.td t21 0) fun t22 => opt (aLoad σ ti3 t22) fun t23 => isI .i64 t23 fun t23_1 => n20 Z w0 n R σ l_ out run i ((t23_1 : Int) == 3))) (n33 Z w0 n R σ out run)) := by kernel_rfl
theorem b20_eq : b20 Z w0 n R σ l_ out run i t25 = (
  condB t25 (opt (B6 σ tabS ti37.td l_ i) fun t29 => opt (aLoad σ ti51 t29) fun t30 => opt2 (F9 σ ti51 false 1 [(0, t30)]) fun t31 σ' => opt2 (I7 σ' ti51 run t31) fun t32 σ'_1 => n32 Z w0 n R σ'_1 l_ out t32 i) (A1 (cx w0) C0.id [run, (.pv (.int .i64 2))] σ fun r σ' => opt2 (I7 σ' ti51 out r) fun t36 σ'_1 => A1 (cx w0) C0.id [run, (.pv (.int .i64 3))] σ'_1 fun r_1 σ'_2 => opt2 (I7 σ'_2 ti51 t36 r_1) fun t40 σ'_3 => opt (B6 σ'_3 tabS ti37.td l_ i) fun t44 => opt (aLoad σ'_3 ti51 t44) fun t45 => opt2 (F9 σ'_3 ti51 false 1 [(0, t45)]) fun t46 σ'_4 => opt2 (I7 σ'_4 ti51 t40 t46) fun t47 σ'_5 => n32 Z w0 n R σ'_5 l_ t47 .nilsl i)) := by kernel_rfl
theorem n20_in (h : b20 (X w0 n) w0 n R σ l_ out run i t25) : n20 (X w0 n) w0 n R σ l_ out run i t25 := xr_in (S := cuts) (by kernel_rfl) h
theorem b32_eq : b32 Z w0 n R σ l_ out run i = (
  n8 Z w0 n R σ l_ out run (IntKind.wrap .i64 (i + 1))) := by kernel_rfl
theorem n32_in (h : b32 (X w0 n) w0 n R σ l_ out run i) : n32 (X w0 n) w0 n R σ l_ out run i := xr_in (S := cuts) (by kernel_rfl) h
theorem b33_eq : b33 Z w0 n R σ out run = (
  A1 (cx w0) C0.id [run, (.pv (.int .i64 2))] σ fun r σ' => opt2 (I7 σ' ti51 out r) fun t51 σ'_1 => A1 (cx w0) C0.id [run, (.pv (.int .i64 3))] σ'_1 fun r_1 σ'_2 => opt2 (I7 σ'_2 ti51 t51 r_1) fun t55 σ'_3 => FinK (cx w0) n t55 σ'_3 R) := by kernel_rfl
theorem n33_in (h : b33 (X w0 n) w0 n R σ out run) : n33 (X w0 n) w0 n R σ out run := xr_in (S := cuts) (by kernel_rfl) h
theorem b0_eq : b0 Z w0 n R σ l_ = (
  n8 Z w0 n R σ l_ .nilsl .nilsl 0) := by kernel_rfl
theorem calls (h : b0 (X w0 (List.length σ)) w0 (List.length σ) R σ l_) : A1 (cx w0) B4.id [l_] σ R :=
  D3 (cxOK w0) (x := fe) (S := cuts) (B4.ok w0) (by kernel_rfl) h
end B4
end Go.Sv
end
