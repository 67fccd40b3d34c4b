/- What the code of reading answers: numbers, a hunk's first line, a header's name. -/
import Derived.Test.YtjonnhjaiiingaaGreatDoorUnO
import Derived.Test.YtjonnhjaiiingaaGreatDoorUnQ
set_option linter.unusedVariables false
set_option linter.unusedSimpArgs false
set_option maxRecDepth 100000
namespace Go.Sv
open Go Go.RowKit Go.Proofs
section
variable {w0 : Base} {σ : Store} {R : AV → Store → Prop}
theorem hasPre_le {s p : Ln} (h : Lib.hasPrefix s p = true) : p.length ≤ s.length := (List.isPrefixOf_iff_prefix.1 h).length_le
theorem slHas_spec {s p : Ln} (hs : s.length ≤ 140737488355328) (hR : R (.pv (.bool (Lib.hasPrefix s p))) σ) : SCalls (cx w0) stringslite_HasPrefix.id [.pv (.str s), .pv (.str p)] σ R := by
  have fin : ∀ t, t = Lib.hasPrefix s p → stringslite_HasPrefix.n4 (stringslite_HasPrefix.X w0 σ.length) w0 σ.length R σ t := by
    rintro t rfl
    refine stringslite_HasPrefix.n4_in ?_
    rw [stringslite_HasPrefix.b4_eq]
    exact fin_same hR
  have e := Lib.hasPrefix_of_take s p
  refine stringslite_HasPrefix.calls ?_
  rw [stringslite_HasPrefix.b0_eq, condB_decide]
  refine ite_split (fun g => ?_) (fun g => fin _ ?_)
  · refine opt_in (slice_take (by omega)) (isS_in (fin _ ?_))
    rw [← e, decide_eq_true (by omega), Bool.true_and]
  · rw [← e, decide_eq_false (by omega), Bool.false_and]
theorem slCut_spec {s p : Ln} (hs : s.length ≤ 140737488355328) (hR : R (.tup [.pv (.str (cutF s p).1), .pv (.bool (cutF s p).2)]) σ) : SCalls (cx w0) stringslite_CutPrefix.id [.pv (.str s), .pv (.str p)] σ R := by
  refine stringslite_CutPrefix.calls ?_
  rw [stringslite_CutPrefix.b0_eq]
  refine slHas_spec hs (isB_in ?_)
  rw [condB_not]
  unfold cutF at hR
  refine condB_split (fun g => ?_) (fun g => ?_)
  · rw [if_pos g] at hR
    have hle := hasPre_le g
    exact opt_in (slice_drop hle) (isS_in (fin_same hR))
  · rw [if_neg (by rw [g]; decide)] at hR
    exact fin_same hR
theorem Cut_spec {s p : Ln} (hs : s.length ≤ 140737488355328) (hR : R (.tup [.pv (.str (cutF s p).1), .pv (.bool (cutF s p).2)]) σ) : SCalls (cx w0) strings_CutPrefix.id [.pv (.str s), .pv (.str p)] σ R := by
  refine strings_CutPrefix.calls ?_
  rw [strings_CutPrefix.b0_eq]
  refine slCut_spec hs ?_
  repeat ((with_reducible first | apply opt_in | apply wI | apply wT | apply wP | apply wS | apply wB); exact rfl)
  exact fin_same hR
abbrev numA (x : Int × Ln × Bool) : AV := .tup [.pv (.int .i64 x.1), .pv (.str x.2.1), .pv (.bool x.2.2)]
theorem num_loop (s : Ln) (hs : s.length ≤ 140737488355328) (v : AV) : ∀ (r : Ln) (i : Nat) (n : Int), s.drop i = r → i ≤ s.length → 0 ≤ n → n ≤ 2147483648 →
    v = numA ((numL r n).1, (numL r n).2, decide ((numL r n).2.length < s.length) && decide ((numL r n).1 ≤ 2147483647)) →
    unified_number.n6 (unified_number.X w0 0) w0 0 (fun r' _ => r' = v) [] s n (i : Int) := by
  have stop : ∀ (r : Ln) (i : Nat) (n : Int), s.drop i = r → i ≤ s.length → v = numA (n, r, decide (r.length < s.length) && decide (n ≤ 2147483647)) → unified_number.n17 (unified_number.X w0 0) w0 0 (fun r' _ => r' = v) [] s n (i : Int) := by
    intro r i n hd hi hv
    have hr : r.length = s.length - i := by rw [← hd, List.length_drop]
    have fin : ∀ t, t = (decide (r.length < s.length) && decide (n ≤ 2147483647)) → unified_number.n19 (unified_number.X w0 0) w0 0 (fun r' _ => r' = v) [] n r t := by
      rintro t rfl
      refine unified_number.n19_in ?_
      rw [unified_number.b19_eq]
      exact fin_keep (Nat.zero_le _) hv.symm
    refine unified_number.n17_in ?_
    rw [unified_number.b17_eq]
    refine opt_in (slice_drop hi) (isS_in ?_)
    rw [hd, condB_decide]
    refine ite_split (fun g => ⟨opt_in (slice_drop hi) (by rw [hd]), fin _ ?_⟩) (fun g => ⟨opt_in (slice_drop hi) (by rw [hd]), fin _ ?_⟩)
    · rw [decide_eq_true (show r.length < s.length by omega), Bool.true_and]
    · rw [decide_eq_false (show ¬ r.length < s.length by omega), Bool.false_and]
  intro r
  induction r with
  | nil =>
    intro i n hd hi h0 h1 hv
    have hk := drop_end hd
    refine unified_number.n6_in ?_
    rw [unified_number.b7_eq, condB_decide, if_neg (by omega)]
    refine unified_number.n10_in ?_
    rw [unified_number.b10_eq, condB_false']
    exact stop [] i n hd hi hv
  | cons c r ih =>
    intro i n hd hi h0 h1 hv
    obtain ⟨g1, g2, hk⟩ := drop_facts hd
    have hc := c.toNat_lt
    have key : ∀ t, t = decide (48 ≤ c.toNat ∧ c.toNat ≤ 57) → unified_number.n10 (unified_number.X w0 0) w0 0 (fun r' _ => r' = v) [] s n (i : Int) t := by
      rintro t rfl
      refine unified_number.n10_in ?_
      rw [unified_number.b10_eq, condB_decide]
      rw [numL] at hv
      refine ite_split (fun g => ?_) (fun g => ?_)
      · rw [if_pos g] at hv
        refine opt_in (idx_str g1) (isI_in ?_)
        rw [wrap_u8 (n := (c.toNat : Int) - 48) (by omega) (by omega), wrap_i64 (n := n * 10) (by omega) (by omega), wrap_i64 (n := (c.toNat : Int) - 48) (by omega) (by omega), wrap_i64 (n := n * 10 + ((c.toNat : Int) - 48)) (by omega) (by omega), wrap_next hk (by omega)]
        exact ih (i + 1) (capI (n * 10 + ((c.toNat : Int) - 48))) g2 (by omega) (by unfold capI; split <;> omega) (by unfold capI; split <;> omega) hv
      · rw [if_neg g] at hv
        exact stop (c :: r) i n hd hi hv
    refine unified_number.n6_in ?_
    rw [unified_number.b7_eq, condB_decide, if_pos (by omega)]
    refine opt_in (idx_str g1) (isI_in ?_)
    rw [condB_decide]
    refine ite_split (fun g => ?_) (fun g => key _ ?_)
    · refine opt_in (idx_str g1) (isI_in (key _ ?_))
      rw [decide_eq_decide]; omega
    · rw [decide_eq_false (by omega)]
theorem number_spec (L : Laid w0.w) {s : Ln} (hs : s.length ≤ 140737488355328) (hR : R (numA (numF s)) σ) : SCalls (cx w0) unified_number.id [.pv (.str s)] σ R := by
  refine SCalls.alone L rfl (fun w1 L1 => ?_) rfl hR
  refine unified_number.calls ?_
  rw [unified_number.b0_eq]
  exact num_loop s hs _ s 0 0 rfl (Nat.zero_le _) (by omega) (by omega) rfl
abbrev rangA (x : Int × Int × Ln × Bool) : AV := .tup [.pv (.int .i64 x.1), .pv (.int .i64 x.2.1), .pv (.str x.2.2.1), .pv (.bool x.2.2.2)]
theorem ranged_spec (L : Laid w0.w) {s : Ln} (hs : s.length ≤ 140737488355328) (hR : R (rangA (rangF s)) σ) : SCalls (cx w0) unified_ranged.id [.pv (.str s)] σ R := by
  refine SCalls.alone L rfl (fun w1 L1 => ?_) rfl hR
  have hn := numF_out s
  have key : ∀ t, t = !((numF s).2.2 && Lib.hasPrefix (numF s).2.1 [44]) → unified_ranged.n7 (unified_ranged.X w1 0) w1 0 (fun r' _ => r' = rangA (rangF s)) [] (numF s).2.1 (numF s).1 (numF s).2.2 t := by
    rintro t rfl
    refine unified_ranged.n7_in ?_
    rw [unified_ranged.b7_eq, condB_not]
    refine condB_split (fun g => ?_) (fun g => ?_)
    · rw [Bool.and_eq_true] at g
      have hle := hasPre_le g.2
      refine opt_in (slice_drop (k := 1) (by simpa using hle)) (isS_in ?_)
      refine number_spec L1 (by rw [List.length_drop]; omega) ?_
      repeat ((with_reducible first | apply opt_in | apply wI | apply wT | apply wP | apply wS | apply wB); exact rfl)
      refine fin_keep (Nat.zero_le _) ?_
      unfold rangF
      rw [if_pos g]
    · refine fin_keep (Nat.zero_le _) ?_
      unfold rangF
      rw [if_neg (by rw [← Bool.and_eq_true, g]; decide)]
  refine unified_ranged.calls ?_
  rw [unified_ranged.b0_eq]
  refine number_spec L1 hs ?_
  repeat ((with_reducible first | apply opt_in | apply wI | apply wT | apply wP | apply wS | apply wB); exact rfl)
  rw [condB_not]
  refine condB_split (fun g => ?_) (fun g => key _ ?_)
  · refine HasPrefix_spec (isB_in (key _ ?_))
    rw [g, Bool.true_and]
  · rw [g]; rfl
abbrev hC0 (h : Hnk) : List AV := [.pv (.int .i64 h.a), .pv (.int .i64 h.n), .pv (.int .i64 h.b), .pv (.int .i64 h.m), .pv (.str h.head), .nilsl]
abbrev fS (h : Hnk) : Store := [.cells 37 (hC0 zeroH), .cells 37 (hC0 h)]
def firstA (x : Hnk × Bool) : AV := .tup [.agg (hC0 x.1), .pv (.bool x.2)]
theorem fst4_spec (L : Laid w0.w) {h : Hnk} {s : Ln} {ok : Bool} (hs : s.length ≤ 140737488355328) : unified_first.n30 (unified_first.X w0 0) w0 0 (fun r' _ => r' = firstA (fst4 h s ok)) (fS h) s (.ptr 0 0) (.ptr 1 0) ok := by
  have key : ∀ t, t = !(ok && !(decide (s ≠ [] ∧ s.head? ≠ some 32))) → unified_first.n33 (unified_first.X w0 0) w0 0 (fun r' _ => r' = firstA (fst4 h s ok)) (fS h) s (.ptr 0 0) (.ptr 1 0) t := by
    rintro t rfl
    refine unified_first.n33_in ?_
    rw [unified_first.b33_eq, condB_not]
    refine condB_split (fun g => ?_) (fun g => ?_)
    · simp only [Bool.and_eq_true, Bool.not_eq_true', decide_eq_false_iff_not] at g
      refine TrimPrefix_spec (isS_in ?_)
      repeat ((with_reducible first | apply opt_in | apply wI | apply wT | apply wP | apply wS | apply wB); exact rfl)
      refine fin_cut (σ := []) glob0 rfl rfl ?_
      unfold fst4
      rw [if_neg (by rw [g.1]; decide), if_neg g.2]; rfl
    · repeat ((with_reducible first | apply opt_in | apply wI | apply wT | apply wP | apply wS | apply wB); exact rfl)
      refine fin_cut (σ := []) glob0 rfl rfl ?_
      unfold fst4
      split
      · rfl
      · rename_i h1
        split
        · rfl
        · rename_i h2
          have : ok = true := by simpa using h1
          rw [this, decide_eq_false h2] at g; cases g
  refine unified_first.n30_in ?_
  rw [unified_first.b30_eq, condB_not]
  refine condB_split (fun g => ?_) (fun g => key _ ?_)
  · rw [condB_not, condB_sbeq]
    refine ite_split (fun g2 => key _ ?_) (fun g2 => ?_)
    · rw [g, decide_eq_false (by rw [g2]; simp)]; rfl
    · cases s with
      | nil => exact absurd rfl g2
      | cons c r =>
        refine opt_in (idx_str (c := c) rfl) (isI_in (key _ ?_))
        rw [g, Bool.true_and, Bool.not_not]
        have : ((c :: r) ≠ [] ∧ (c :: r).head? ≠ some 32) ↔ ¬ ((c.toNat : Int) = 32) := by
          simp only [List.head?_cons, ne_eq, reduceCtorEq, not_false_eq_true, true_and, Option.some.injEq]
          constructor
          · intro h e; exact h (UInt8.toNat_inj.1 (by have : UInt8.toNat 32 = 32 := rfl; omega))
          · intro h e; exact h (by rw [e]; rfl)
        rw [decide_eq_decide.2 this, decide_not]; rfl
  · rw [g]; rfl
theorem fst3_spec (L : Laid w0.w) {h : Hnk} {s : Ln} {ok : Bool} (hs : s.length ≤ 140737488355328) : unified_first.n24 (unified_first.X w0 0) w0 0 (fun r' _ => r' = firstA (fst3 h s ok)) (fS h) s (.ptr 0 0) (.ptr 1 0) ok := by
  have := cutF_out s [32, 64, 64]
  refine unified_first.n24_in ?_
  rw [unified_first.b24_eq]
  unfold fst3
  refine condB_split (fun g => ?_) (fun g => ?_)
  · rw [if_pos g]
    refine Cut_spec hs ?_
    repeat ((with_reducible first | apply opt_in | apply wI | apply wT | apply wP | apply wS | apply wB); exact rfl)
    exact fst4_spec L (by omega)
  · rw [if_neg (by rw [g]; decide)]
    exact fst4_spec L hs
theorem fst2_spec (L : Laid w0.w) {h : Hnk} {s : Ln} {ok : Bool} (hs : s.length ≤ 140737488355328) : unified_first.n18 (unified_first.X w0 0) w0 0 (fun r' _ => r' = firstA (fst2 h s ok)) (fS h) s (.ptr 0 0) (.ptr 1 0) ok := by
  have := rangF_out s
  refine unified_first.n18_in ?_
  rw [unified_first.b18_eq]
  unfold fst2
  refine condB_split (fun g => ?_) (fun g => ?_)
  · rw [if_pos g]
    refine ranged_spec L hs ?_
    repeat ((with_reducible first | apply opt_in | apply wI | apply wT | apply wP | apply wS | apply wB); exact rfl)
    exact fst3_spec L (h := { h with b := (rangF s).1, m := (rangF s).2.1 }) (by omega)
  · rw [if_neg (by rw [g]; decide)]
    exact fst3_spec L hs
theorem fst1_spec (L : Laid w0.w) {h : Hnk} {s : Ln} {ok : Bool} (hs : s.length ≤ 140737488355328) : unified_first.n12 (unified_first.X w0 0) w0 0 (fun r' _ => r' = firstA (fst1 h s ok)) (fS h) s (.ptr 0 0) (.ptr 1 0) ok := by
  have := cutF_out s [32, 43]
  refine unified_first.n12_in ?_
  rw [unified_first.b12_eq]
  unfold fst1
  refine condB_split (fun g => ?_) (fun g => ?_)
  · rw [if_pos g]
    refine Cut_spec hs ?_
    repeat ((with_reducible first | apply opt_in | apply wI | apply wT | apply wP | apply wS | apply wB); exact rfl)
    exact fst2_spec L (by omega)
  · rw [if_neg (by rw [g]; decide)]
    exact fst2_spec L hs
theorem first_spec (L : Laid w0.w) {s : Ln} (hs : s.length ≤ 140737488355328) (hR : R (firstA (firstF s)) σ) : SCalls (cx w0) unified_first.id [.pv (.str s)] σ R := by
  refine SCalls.alone L rfl (fun w1 L1 => ?_) rfl hR
  have h1 := cutF_out s [64, 64, 32, 45]
  have h2 := rangF_out (cutF s [64, 64, 32, 45]).1
  refine unified_first.calls ?_
  rw [unified_first.b0_eq]
  refine Cut_spec hs ?_
  repeat ((with_reducible first | apply opt_in | apply wI | apply wT | apply wP | apply wS | apply wB); exact rfl)
  unfold firstF
  refine condB_split (fun g => ?_) (fun g => ?_)
  · rw [if_pos g]
    refine ranged_spec L1 (by omega) ?_
    repeat ((with_reducible first | apply opt_in | apply wI | apply wT | apply wP | apply wS | apply wB); exact rfl)
    exact fst1_spec L1 (h := { zeroH with a := (rangF (cutF s [64, 64, 32, 45]).1).1, n := (rangF (cutF s [64, 64, 32, 45]).1).2.1 }) (by omega)
  · rw [if_neg (by rw [g]; decide)]
    exact fst1_spec L1 (h := zeroH) (by omega)
end
end Go.Sv
