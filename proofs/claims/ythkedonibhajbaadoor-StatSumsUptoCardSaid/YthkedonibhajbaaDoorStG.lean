/- Counts and their sums: what both sides reckon. -/
import Derived.Test.YthkedonibhajbaaDoorFnD
import Derived.Test.YthkedonibhajbaaDoorStB
import Derived.Test.YthkedonibhajbaaDoorSvV
import Derived.Lib.ItoaLen
set_option linter.unusedVariables false
set_option linter.unusedSimpArgs false
set_option maxRecDepth 100000
namespace Go.Sv
open Go Go.RowKit Go.Proofs
structure Cnt where
  nm : List UInt8
  a : Int
  d : Int
abbrev cntP (c : Cnt) : PV := .agg [.str c.nm, .int .i64 c.a, .int .i64 c.d]
abbrev cntsA (l : List Cnt) : AV := .pv (.sl (l.map cntP))
/-! ### Sums -/
def sumP : List Cnt → Int → Int → Option (Int × Int)
  | [], a, d => some (a, d)
  | c :: r, a, d => if inN c.a = true ∧ inN c.d = true then sumP r (IntKind.wrap .i64 (a + c.a)) (IntKind.wrap .i64 (d + c.d)) else none
def sumR : List Cnt → Int → Int → Option (Int × Int)
  | [], a, d => some (a, d)
  | c :: r, a, d => if inN c.a = true ∧ inN c.d = true ∧ inN (IntKind.wrap .i64 (a + c.a)) = true ∧ inN (IntKind.wrap .i64 (d + c.d)) = true then sumR r (IntKind.wrap .i64 (a + c.a)) (IntKind.wrap .i64 (d + c.d)) else none
def outP : Option (Int × Int) → AV
  | some (a, d) => .tup [.pv (.int .i64 a), .pv (.int .i64 d), .pv (.bool (inN a && inN d))]
  | none => .tup [.pv (.int .i64 0), .pv (.int .i64 0), .pv (.bool false)]
def outR : Option (Int × Int) → AV
  | some (a, d) => .tup [.pv (.int .i64 a), .pv (.int .i64 d), .pv (.bool true)]
  | none => .tup [.pv (.int .i64 0), .pv (.int .i64 0), .pv (.bool false)]
def sumsP (l : List Cnt) : Option (Int × Int) := if 65536 < l.length then none else sumP l 0 0
def sumsR (l : List Cnt) : Option (Int × Int) := if 65536 < l.length then none else sumR l 0 0
theorem sumP_le : ∀ (r : List Cnt) (a d : Int) (p : Int × Int), 0 ≤ a → 0 ≤ d → a + r.length * 2147483647 ≤ 9223372036854775807 → d + r.length * 2147483647 ≤ 9223372036854775807 → sumP r a d = some p → a ≤ p.1 ∧ d ≤ p.2
  | [], a, d, p, _, _, _, _, h => by simp only [sumP, Option.some.injEq] at h; subst h; exact ⟨Int.le_refl _, Int.le_refl _⟩
  | c :: r, a, d, p, ha, hd, h1, h2, h => by
    simp only [sumP] at h
    split at h
    · rename_i hc
      have ⟨c1, c2⟩ := inN_iff.1 hc.1
      have ⟨c3, c4⟩ := inN_iff.1 hc.2
      simp only [List.length_cons] at h1 h2
      rw [wrap_i64 (n := a + c.a) (by omega) (by omega), wrap_i64 (n := d + c.d) (by omega) (by omega)] at h
      have := sumP_le r _ _ p (by omega) (by omega) (by omega) (by omega) h
      omega
    · cases h
theorem sum_same : ∀ (r : List Cnt) (a d : Int) (p : Int × Int), inN a = true → inN d = true → r.length ≤ 65536 → (sumR r a d = some p ↔ sumP r a d = some p ∧ inN p.1 = true ∧ inN p.2 = true)
  | [], a, d, p, ha, hd, _ => by
    simp only [sumP, sumR, Option.some.injEq]
    constructor
    · rintro rfl; exact ⟨rfl, ha, hd⟩
    · exact fun h => h.1
  | c :: r, a, d, p, ha, hd, hl => by
    have ⟨a1, a2⟩ := inN_iff.1 ha
    have ⟨d1, d2⟩ := inN_iff.1 hd
    simp only [List.length_cons] at hl
    simp only [sumP, sumR]
    by_cases hc : inN c.a = true ∧ inN c.d = true
    · have ⟨c1, c2⟩ := inN_iff.1 hc.1
      have ⟨c3, c4⟩ := inN_iff.1 hc.2
      rw [if_pos hc, wrap_i64 (n := a + c.a) (by omega) (by omega), wrap_i64 (n := d + c.d) (by omega) (by omega)]
      by_cases hn : inN (a + c.a) = true ∧ inN (d + c.d) = true
      · rw [if_pos ⟨hc.1, hc.2, hn.1, hn.2⟩]
        exact sum_same r _ _ p hn.1 hn.2 (by omega)
      · rw [if_neg (fun h => hn h.2.2)]
        constructor
        · intro h; cases h
        · rintro ⟨h, p1, p2⟩
          have := sumP_le r _ _ p (by omega) (by omega) (by omega) (by omega) h
          have ⟨q1, q2⟩ := inN_iff.1 p1
          have ⟨q3, q4⟩ := inN_iff.1 p2
          exact absurd ⟨inN_iff.2 (by omega), inN_iff.2 (by omega)⟩ hn
    · rw [if_neg hc, if_neg (fun h => hc ⟨h.1, h.2.1⟩)]
      simp
/-- Both sides' sums. -/
theorem sums_same (l : List Cnt) : (∃ p, sumsR l = some p ∧ sumsP l = some p ∧ 0 ≤ p.1 ∧ p.1 ≤ 2147483647 ∧ 0 ≤ p.2 ∧ p.2 ≤ 2147483647 ∧ l.length ≤ 65536) ∨ (sumsR l = none ∧ ∀ p, sumsP l = some p → (inN p.1 && inN p.2) = false) := by
  unfold sumsR sumsP
  by_cases h : 65536 < l.length
  · rw [if_pos h]; exact .inr ⟨rfl, fun p h => by rw [if_pos ‹_›] at h; cases h⟩
  · rw [if_neg h, if_neg h]
    have hs := fun p => sum_same l 0 0 p rfl rfl (by omega)
    cases hr : sumR l 0 0 with
    | some p =>
      obtain ⟨h1, h2, h3⟩ := (hs p).1 hr
      have ⟨q1, q2⟩ := inN_iff.1 h2
      have ⟨q3, q4⟩ := inN_iff.1 h3
      exact .inl ⟨p, rfl, h1, q1, q2, q3, q4, by omega⟩
    | none =>
      refine .inr ⟨rfl, fun p hp => ?_⟩
      cases hb : (inN p.1 && inN p.2) with
      | false => rfl
      | true =>
        rw [Bool.and_eq_true] at hb
        have := (hs p).2 ⟨hp, hb.1, hb.2⟩
        rw [hr] at this; cases this
section
variable {w0 : Base} {σ : Store} {R : AV → Store → Prop}
theorem sums_loop (xs : List PV) (hx : xs.length ≤ 65536) : ∀ (r : List Cnt) (k : Nat) (a d : Int), xs.drop k = r.map cntP → stat_sums.n14 (stat_sums.X w0 0) w0 0 (fun r' _ => r' = outP (sumP r a d)) [] a d (.pv (.sl xs)) xs.length k
  | [], k, a, d, h => by
    have hk := drop_end h
    refine stat_sums.n14_in ?_
    rw [stat_sums.b15_eq, condB_decide, if_neg (by omega)]
    refine stat_sums.n37_in ?_
    rw [stat_sums.b37_eq]
    have fin : ∀ ok, ok = (inN a && inN d) → stat_sums.n39 (stat_sums.X w0 0) w0 0 (fun r' _ => r' = outP (sumP [] a d)) [] a d ok := by
      rintro ok rfl
      refine stat_sums.n39_in ?_
      rw [stat_sums.b39_eq]
      exact fin_keep (Nat.zero_le _) rfl
    refine fits_spec (isB_in (condB_split (fun h1 => fits_spec (isB_in (fin _ ?_))) (fun h1 => fin _ ?_)))
    · rw [h1, Bool.true_and]
    · rw [h1, Bool.false_and]
  | c :: r, k, a, d, h => by
    obtain ⟨h1, h2, hk⟩ := drop_facts h
    have bad : ∀ L, ¬ (inN c.a = true ∧ inN c.d = true) → stat_sums.n28 (stat_sums.X w0 0) w0 0 (fun r' _ => r' = outP (sumP (c :: r) a d)) L a d (.ptr 0 0) (.pv (.sl xs)) xs.length k true := by
      intro L hc
      refine stat_sums.n28_in ?_
      rw [stat_sums.b28_eq]
      refine fin_keep (Nat.zero_le _) ?_
      simp only [sumP, if_neg hc]; rfl
    refine stat_sums.n14_in ?_
    rw [stat_sums.b15_eq, condB_decide, if_pos (by omega)]
    refine opt_in (idx_ro tab48 h1 rfl) ?_
    repeat (first | ((with_reducible show opt _ _); refine opt_in rfl ?_) | ((with_reducible show isI _ _ _); refine isI_in ?_) | ((with_reducible show isTup _ _); refine isTup_in ?_))
    refine fits_spec (isB_in ?_)
    rw [condB_not]
    refine condB_split (fun g1 => ?_) (fun g1 => bad _ (fun h => by rw [g1] at h; cases h.1))
    repeat (first | ((with_reducible show opt _ _); refine opt_in rfl ?_) | ((with_reducible show isI _ _ _); refine isI_in ?_) | ((with_reducible show isTup _ _); refine isTup_in ?_))
    refine fits_spec (isB_in ?_)
    cases g2 : inN c.d with
    | false => exact bad _ (fun h => by rw [g2] at h; cases h.2)
    | true =>
      refine stat_sums.n28_in ?_
      rw [stat_sums.b28_eq]
      refine condB_split (fun h => by cases h) (fun _ => ?_)
      repeat (first | ((with_reducible show opt _ _); refine opt_in rfl ?_) | ((with_reducible show isI _ _ _); refine isI_in ?_) | ((with_reducible show isTup _ _); refine isTup_in ?_))
      rw [wrap_next hk (by omega)]
      refine stat_sums.n14_weak (EWeak.drop (τ := []) glob0 (Nat.zero_le _) rfl rfl) ?_
      simp only [sumP, if_pos (And.intro g1 g2)]
      exact sums_loop xs hx r (k + 1) _ _ h2
theorem sums_spec (L : Laid w0.w) {l : List Cnt} (hR : R (outP (sumsP l)) σ) : SCalls (cx w0) stat_sums.id [cntsA l] σ R := by
  refine SCalls.alone L rfl (fun w1 L1 => ?_) ?_ hR
  · refine stat_sums.calls ?_
    rw [stat_sums.b0_eq]
    repeat (first | ((with_reducible show opt _ _); refine opt_in rfl ?_) | ((with_reducible show isI _ _ _); refine isI_in ?_) | ((with_reducible show isTup _ _); refine isTup_in ?_))
    rw [condB_decide]
    unfold sumsP
    have hl : (l.map cntP).length = l.length := List.length_map _
    refine ite_split (fun h => fin_keep (Nat.zero_le _) ?_) (fun h => ?_)
    · rw [if_pos (by omega)]; rfl
    · rw [if_neg (by omega)]
      repeat (first | ((with_reducible show opt _ _); refine opt_in rfl ?_) | ((with_reducible show isI _ _ _); refine isI_in ?_) | ((with_reducible show isTup _ _); refine isTup_in ?_))
      exact sums_loop (l.map cntP) (by omega) l 0 0 0 rfl
  · unfold outP; split <;> rfl
theorem rsums_loop (xs : List PV) (hx : xs.length ≤ 65536) : ∀ (r : List Cnt) (k : Nat) (a d : Int), xs.drop k = r.map cntP → selvageref16_sums.n16 (selvageref16_sums.X w0 0) w0 0 (fun r' _ => r' = outR (sumR r a d)) [] (.pv (.sl xs)) a d k
  | [], k, a, d, h => by
    have hk := drop_end h
    refine selvageref16_sums.n16_in ?_
    rw [selvageref16_sums.b17_eq]
    repeat (first | ((with_reducible show opt _ _); refine opt_in rfl ?_) | ((with_reducible show isI _ _ _); refine isI_in ?_) | ((with_reducible show isTup _ _); refine isTup_in ?_))
    rw [condB_decide, if_neg (by omega)]
    refine selvageref16_sums.n37_in ?_
    rw [selvageref16_sums.b37_eq]
    exact fin_keep (Nat.zero_le _) rfl
  | c :: r, k, a, d, h => by
    obtain ⟨h1, h2, hk⟩ := drop_facts h
    have bad : ¬ (inN c.a = true ∧ inN c.d = true ∧ inN (IntKind.wrap .i64 (a + c.a)) = true ∧ inN (IntKind.wrap .i64 (d + c.d)) = true) → selvageref16_sums.n28 (selvageref16_sums.X w0 0) w0 0 (fun r' _ => r' = outR (sumR (c :: r) a d)) [] (.pv (.sl xs)) a d k true := by
      intro hc
      refine selvageref16_sums.n28_in ?_
      rw [selvageref16_sums.b28_eq]
      refine fin_keep (Nat.zero_le _) ?_
      simp only [sumR, if_neg hc]; rfl
    have idx : aIndexAddr [] tabS ti28.td (.pv (.sl xs)) (k : Int) = some (.ro (cntP c) 0) := idx_ro tab47 h1 rfl
    refine selvageref16_sums.n16_in ?_
    rw [selvageref16_sums.b17_eq]
    repeat (first | ((with_reducible show opt _ _); refine opt_in rfl ?_) | ((with_reducible show isI _ _ _); refine isI_in ?_) | ((with_reducible show isTup _ _); refine isTup_in ?_))
    rw [condB_decide, if_pos (by omega)]
    refine opt_in idx ?_
    repeat (first | ((with_reducible show opt _ _); refine opt_in rfl ?_) | ((with_reducible show isI _ _ _); refine isI_in ?_) | ((with_reducible show isTup _ _); refine isTup_in ?_))
    refine in_spec (isB_in ?_)
    rw [condB_not]
    refine condB_split (fun g1 => ?_) (fun g1 => bad (fun h => by rw [g1] at h; cases h.1))
    refine opt_in idx ?_
    repeat (first | ((with_reducible show opt _ _); refine opt_in rfl ?_) | ((with_reducible show isI _ _ _); refine isI_in ?_) | ((with_reducible show isTup _ _); refine isTup_in ?_))
    refine in_spec (isB_in ?_)
    rw [condB_not]
    refine condB_split (fun g2 => ?_) (fun g2 => bad (fun h => by rw [g2] at h; cases h.2.1))
    refine opt_in idx ?_
    repeat (first | ((with_reducible show opt _ _); refine opt_in rfl ?_) | ((with_reducible show isI _ _ _); refine isI_in ?_) | ((with_reducible show isTup _ _); refine isTup_in ?_))
    refine in_spec (isB_in ?_)
    rw [condB_not]
    refine condB_split (fun g3 => ?_) (fun g3 => bad (fun h => by rw [g3] at h; cases h.2.2.1))
    refine opt_in idx ?_
    repeat (first | ((with_reducible show opt _ _); refine opt_in rfl ?_) | ((with_reducible show isI _ _ _); refine isI_in ?_) | ((with_reducible show isTup _ _); refine isTup_in ?_))
    refine in_spec (isB_in ?_)
    cases g4 : inN (IntKind.wrap .i64 (d + c.d)) with
    | false => exact bad (fun h => by rw [g4] at h; cases h.2.2.2)
    | true =>
      refine selvageref16_sums.n28_in ?_
      rw [selvageref16_sums.b28_eq]
      refine condB_split (fun h => by cases h) (fun _ => ?_)
      refine opt_in idx ?_
      repeat (first | ((with_reducible show opt _ _); refine opt_in rfl ?_) | ((with_reducible show isI _ _ _); refine isI_in ?_) | ((with_reducible show isTup _ _); refine isTup_in ?_))
      refine opt_in idx ?_
      repeat (first | ((with_reducible show opt _ _); refine opt_in rfl ?_) | ((with_reducible show isI _ _ _); refine isI_in ?_) | ((with_reducible show isTup _ _); refine isTup_in ?_))
      rw [wrap_next hk (by omega)]
      simp only [sumR, if_pos (And.intro g1 (And.intro g2 (And.intro g3 g4)))]
      exact rsums_loop xs hx r (k + 1) _ _ h2
theorem rsums_spec (L : Laid w0.w) {l : List Cnt} (hR : R (outR (sumsR l)) σ) : SCalls (cx w0) selvageref16_sums.id [cntsA l] σ R := by
  refine SCalls.alone L rfl (fun w1 L1 => ?_) ?_ hR
  · refine selvageref16_sums.calls ?_
    rw [selvageref16_sums.b0_eq]
    repeat (first | ((with_reducible show opt _ _); refine opt_in rfl ?_) | ((with_reducible show isI _ _ _); refine isI_in ?_) | ((with_reducible show isTup _ _); refine isTup_in ?_))
    rw [condB_decide]
    unfold sumsR
    have hl : (l.map cntP).length = l.length := List.length_map _
    refine ite_split (fun h => fin_keep (Nat.zero_le _) ?_) (fun h => ?_)
    · rw [if_pos (by omega)]; rfl
    · rw [if_neg (by omega)]
      exact rsums_loop (l.map cntP) (by omega) l 0 0 0 rfl
  · unfold outR; split <;> rfl
end
end Go.Sv
