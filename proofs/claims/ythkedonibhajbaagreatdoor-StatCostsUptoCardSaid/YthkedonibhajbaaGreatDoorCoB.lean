/- The document's layer 6 (scripts): what Valid, Pairs, Of, Normal, Cost answer. -/
import Derived.Test.YthkedonibhajbaaGreatDoorFnK
import Derived.Test.YthkedonibhajbaaGreatDoorCoA
set_option linter.unusedVariables false
set_option linter.unusedSimpArgs false
set_option maxRecDepth 100000
namespace Go.Sv
open Go Go.RowKit Go.Proofs
structure Chg where
  a : Int
  n : Int
  b : Int
  m : Int
abbrev chgP (c : Chg) : PV := .agg [.int .i64 c.a, .int .i64 c.n, .int .i64 c.b, .int .i64 c.m]
abbrev ncP (c : NC) : PV := .agg [.int .i64 (c.a : Nat), .int .i64 (c.n : Nat), .int .i64 (c.b : Nat), .int .i64 (c.m : Nat)]
abbrev pairP (p : Nat × Nat) : PV := .agg [.int .i64 (p.1 : Nat), .int .i64 (p.2 : Nat)]
def badG (N M : Int) (c : Chg) (a b : Int) : Bool := decide (c.a < a) || decide (c.b < b) || decide (c.a > N) || decide (c.b > M) || !decide (c.a - a = c.b - b) || decide (c.n < 0) || decide (c.m < 0) || decide (c.n > N - c.a) || decide (c.m > M - c.b) || (decide (c.n = 0) && decide (c.m = 0))
def vL (N M : Int) : List Chg → Int → Int → Bool
  | [], a, b => decide (N - a = M - b)
  | c :: r, a, b => !badG N M c a b && vL N M r (c.a + c.n) (c.b + c.m)
def vF (N M : Int) (s : List Chg) : Int := if N < 0 ∨ N > 4194304 ∨ M < 0 ∨ M > 4194304 then 1 else if vL N M s 0 0 = true then 0 else 60
theorem vL_chain (N M : Nat) : ∀ (s : List Chg) (a b : Nat), a ≤ N → b ≤ M → vL N M s a b = true → ∃ ns : List NC, s.map chgP = ns.map ncP ∧ chain N M ns a b
  | [], a, b, ha, hb, h => by
    simp only [vL, decide_eq_true_eq] at h
    exact ⟨[], rfl, ha, hb, by omega⟩
  | c :: r, a, b, ha, hb, h => by
    simp only [vL, Bool.and_eq_true, Bool.not_eq_true'] at h
    obtain ⟨h1, h2⟩ := h
    simp only [badG, Bool.or_eq_false_iff, decide_eq_false_iff_not, Bool.not_eq_false', Bool.and_eq_false_iff, decide_eq_true_eq] at h1
    obtain ⟨⟨⟨⟨⟨⟨⟨⟨⟨g1, g2⟩, g3⟩, g4⟩, g5⟩, g6⟩, g7⟩, g8⟩, g9⟩, g10⟩ := h1
    obtain ⟨a', ea⟩ : ∃ x : Nat, c.a = x := ⟨c.a.toNat, by omega⟩
    obtain ⟨n', en⟩ : ∃ x : Nat, c.n = x := ⟨c.n.toNat, by omega⟩
    obtain ⟨b', eb⟩ : ∃ x : Nat, c.b = x := ⟨c.b.toNat, by omega⟩
    obtain ⟨m', em⟩ : ∃ x : Nat, c.m = x := ⟨c.m.toNat, by omega⟩
    rw [ea, en, eb, em] at h2
    obtain ⟨ns, e1, e2⟩ := vL_chain N M r (a' + n') (b' + m') (by omega) (by omega) (by push_cast; exact h2)
    refine ⟨⟨a', n', b', m'⟩ :: ns, ?_, by show a ≤ a'; omega, by show b ≤ b'; omega, by show a' - a = b' - b; omega, by show 0 < n' + m'; omega, by show a' + n' ≤ N; omega, by show b' + m' ≤ M; omega, e2⟩
    rw [List.map_cons, List.map_cons, e1, chgP, ea, en, eb, em]
section
variable {w0 : Base} {σ : Store} {R : AV → Store → Prop}
theorem val_loop (xs : List PV) (hx : xs.length ≤ 140737488355328) (N M : Int) (hN : N ≤ 4194304) (hM : M ≤ 4194304) : ∀ (r : List Chg) (k : Nat) (a b : Int), xs.drop k = r.map chgP → 0 ≤ a → a ≤ N → 0 ≤ b → b ≤ M →
    selvageref06_Valid.n16 (selvageref06_Valid.X w0 0) w0 0 (fun r' _ => r' = .pv (.int .i64 (if vL N M r a b = true then 0 else 60))) [] (.pv (.sl xs)) N M a b k
  | [], k, a, b, h, a0, a1, b0, b1 => by
    have hk := drop_end h
    refine selvageref06_Valid.n16_in ?_
    rw [selvageref06_Valid.b17_eq]
    repeat (first | ((with_reducible show opt _ _); refine opt_in rfl ?_) | ((with_reducible show isI _ _ _); refine isI_in ?_) | ((with_reducible show isTup _ _); refine isTup_in ?_) | ((with_reducible show isS _ _); refine isS_in ?_) | ((with_reducible show isB _ _); refine isB_in ?_))
    rw [condB_decide, if_neg (by omega)]
    refine selvageref06_Valid.n39_in ?_
    rw [selvageref06_Valid.b39_eq, wrap_i64 (by omega) (by omega), wrap_i64 (by omega) (by omega), condB_ibne]
    refine ite_split (fun g => fin_keep (Nat.zero_le _) ?_) (fun g => fin_keep (Nat.zero_le _) ?_)
    · simp only [vL, decide_eq_true g, if_true]
    · simp only [vL, decide_eq_false g]; rfl
  | c :: r, k, a, b, h, a0, a1, b0, b1 => by
    obtain ⟨h1, h2, hk⟩ := drop_facts h
    have key : ∀ t, t = badG N M c a b → selvageref06_Valid.n30 (selvageref06_Valid.X w0 0) w0 0 (fun r' _ => r' = .pv (.int .i64 (if vL N M (c :: r) a b = true then 0 else 60))) [.cells 48 [.pv (.int .i64 c.a), .pv (.int .i64 c.n), .pv (.int .i64 c.b), .pv (.int .i64 c.m)]] (.pv (.sl xs)) N M k (.ptr 0 0) t := by
      rintro t rfl
      refine selvageref06_Valid.n30_in ?_
      rw [selvageref06_Valid.b30_eq]
      refine condB_split (fun g => fin_keep (Nat.zero_le _) ?_) (fun g => ?_)
      · simp only [vL, g]; rfl
      have g' := g
      simp only [badG, Bool.or_eq_false_iff, decide_eq_false_iff_not, Bool.not_eq_false', Bool.and_eq_false_iff, decide_eq_true_eq] at g'
      obtain ⟨⟨⟨⟨⟨⟨⟨⟨⟨g1, g2⟩, g3⟩, g4⟩, g5⟩, g6⟩, g7⟩, g8⟩, g9⟩, g10⟩ := g'
      repeat (first | ((with_reducible show opt _ _); refine opt_in rfl ?_) | ((with_reducible show isI _ _ _); refine isI_in ?_) | ((with_reducible show isTup _ _); refine isTup_in ?_) | ((with_reducible show isS _ _); refine isS_in ?_) | ((with_reducible show isB _ _); refine isB_in ?_))
      rw [wrap_next hk (by omega), wrap_i64 (n := c.a + c.n) (by omega) (by omega), wrap_i64 (n := c.b + c.m) (by omega) (by omega)]
      refine selvageref06_Valid.n16_weak (EWeak.drop (τ := []) glob0 (Nat.zero_le _) rfl rfl) ?_
      have e : vL N M (c :: r) a b = vL N M r (c.a + c.n) (c.b + c.m) := by simp only [vL, g]; rfl
      rw [e]
      exact val_loop xs hx N M hN hM r (k + 1) _ _ h2 (by omega) (by omega) (by omega) (by omega)
    refine selvageref06_Valid.n16_in ?_
    rw [selvageref06_Valid.b17_eq]
    repeat (first | ((with_reducible show opt _ _); refine opt_in rfl ?_) | ((with_reducible show isI _ _ _); refine isI_in ?_) | ((with_reducible show isTup _ _); refine isTup_in ?_) | ((with_reducible show isS _ _); refine isS_in ?_) | ((with_reducible show isB _ _); refine isB_in ?_))
    rw [condB_decide, if_pos (by omega)]
    refine opt_in (idx_ro tab48 h1 rfl) ?_
    repeat (first | ((with_reducible show opt _ _); refine opt_in rfl ?_) | ((with_reducible show isI _ _ _); refine isI_in ?_) | ((with_reducible show isTup _ _); refine isTup_in ?_) | ((with_reducible show isS _ _); refine isS_in ?_) | ((with_reducible show isB _ _); refine isB_in ?_))
    rw [condB_decide]
    refine ite_split (fun g => key _ (by simp [badG, g])) (fun g1 => ?_)
    repeat (first | ((with_reducible show opt _ _); refine opt_in rfl ?_) | ((with_reducible show isI _ _ _); refine isI_in ?_) | ((with_reducible show isTup _ _); refine isTup_in ?_) | ((with_reducible show isS _ _); refine isS_in ?_) | ((with_reducible show isB _ _); refine isB_in ?_))
    rw [condB_decide]
    refine ite_split (fun g => key _ (by simp [badG, g])) (fun g2 => ?_)
    repeat (first | ((with_reducible show opt _ _); refine opt_in rfl ?_) | ((with_reducible show isI _ _ _); refine isI_in ?_) | ((with_reducible show isTup _ _); refine isTup_in ?_) | ((with_reducible show isS _ _); refine isS_in ?_) | ((with_reducible show isB _ _); refine isB_in ?_))
    rw [condB_decide]
    refine ite_split (fun g => key _ (by simp [badG, g])) (fun g3 => ?_)
    repeat (first | ((with_reducible show opt _ _); refine opt_in rfl ?_) | ((with_reducible show isI _ _ _); refine isI_in ?_) | ((with_reducible show isTup _ _); refine isTup_in ?_) | ((with_reducible show isS _ _); refine isS_in ?_) | ((with_reducible show isB _ _); refine isB_in ?_))
    rw [condB_decide]
    refine ite_split (fun g => key _ (by simp [badG, g])) (fun g4 => ?_)
    repeat (first | ((with_reducible show opt _ _); refine opt_in rfl ?_) | ((with_reducible show isI _ _ _); refine isI_in ?_) | ((with_reducible show isTup _ _); refine isTup_in ?_) | ((with_reducible show isS _ _); refine isS_in ?_) | ((with_reducible show isB _ _); refine isB_in ?_))
    rw [wrap_i64 (n := c.a - a) (by omega) (by omega), wrap_i64 (n := c.b - b) (by omega) (by omega), condB_ibne]
    refine ite_split (fun g5 => ?_) (fun g => key _ (by simp [badG, g]))
    repeat (first | ((with_reducible show opt _ _); refine opt_in rfl ?_) | ((with_reducible show isI _ _ _); refine isI_in ?_) | ((with_reducible show isTup _ _); refine isTup_in ?_) | ((with_reducible show isS _ _); refine isS_in ?_) | ((with_reducible show isB _ _); refine isB_in ?_))
    rw [condB_decide]
    refine ite_split (fun g => key _ (by simp [badG, g])) (fun g6 => ?_)
    repeat (first | ((with_reducible show opt _ _); refine opt_in rfl ?_) | ((with_reducible show isI _ _ _); refine isI_in ?_) | ((with_reducible show isTup _ _); refine isTup_in ?_) | ((with_reducible show isS _ _); refine isS_in ?_) | ((with_reducible show isB _ _); refine isB_in ?_))
    rw [condB_decide]
    refine ite_split (fun g => key _ (by simp [badG, g])) (fun g7 => ?_)
    repeat (first | ((with_reducible show opt _ _); refine opt_in rfl ?_) | ((with_reducible show isI _ _ _); refine isI_in ?_) | ((with_reducible show isTup _ _); refine isTup_in ?_) | ((with_reducible show isS _ _); refine isS_in ?_) | ((with_reducible show isB _ _); refine isB_in ?_))
    rw [wrap_i64 (n := N - c.a) (by omega) (by omega), condB_decide]
    refine ite_split (fun g => key _ (by simp [badG, g])) (fun g8 => ?_)
    repeat (first | ((with_reducible show opt _ _); refine opt_in rfl ?_) | ((with_reducible show isI _ _ _); refine isI_in ?_) | ((with_reducible show isTup _ _); refine isTup_in ?_) | ((with_reducible show isS _ _); refine isS_in ?_) | ((with_reducible show isB _ _); refine isB_in ?_))
    rw [wrap_i64 (n := M - c.b) (by omega) (by omega), condB_decide]
    refine ite_split (fun g => key _ (by simp [badG, g])) (fun g9 => ?_)
    repeat (first | ((with_reducible show opt _ _); refine opt_in rfl ?_) | ((with_reducible show isI _ _ _); refine isI_in ?_) | ((with_reducible show isTup _ _); refine isTup_in ?_) | ((with_reducible show isS _ _); refine isS_in ?_) | ((with_reducible show isB _ _); refine isB_in ?_))
    have last : ∀ t, t = (decide (c.n = 0) && decide (c.m = 0)) → t = badG N M c a b := by
      rintro t rfl
      have d1 : decide (c.a < a) = false := decide_eq_false g1
      have d2 : decide (c.b < b) = false := decide_eq_false g2
      have d3 : decide (c.a > N) = false := decide_eq_false g3
      have d4 : decide (c.b > M) = false := decide_eq_false g4
      have d5 : decide (c.a - a = c.b - b) = true := decide_eq_true g5
      have d6 : decide (c.n < 0) = false := decide_eq_false g6
      have d7 : decide (c.m < 0) = false := decide_eq_false g7
      have d8 : decide (c.n > N - c.a) = false := decide_eq_false g8
      have d9 : decide (c.m > M - c.b) = false := decide_eq_false g9
      unfold badG
      rw [d1, d2, d3, d4, d5, d6, d7, d8, d9]
      generalize (decide (c.n = 0) && decide (c.m = 0)) = u
      cases u <;> rfl
    refine condB_split ?_ ?_
    · intro g
      have g' : decide (c.n = 0) = true := by simpa using g
      have e : (c.m == 0) = badG N M c a b := last _ (by rw [g', Bool.true_and, Bool.eq_iff_iff, beq_iff_eq, decide_eq_true_eq])
      have := key _ e
      repeat (first | ((with_reducible show opt _ _); refine opt_in rfl ?_) | ((with_reducible show isI _ _ _); refine isI_in ?_) | ((with_reducible show isTup _ _); refine isTup_in ?_) | ((with_reducible show isS _ _); refine isS_in ?_) | ((with_reducible show isB _ _); refine isB_in ?_))
      exact this
    · intro g
      have g' : decide (c.n = 0) = false := by simpa using g
      have e : false = badG N M c a b := last _ (by rw [g', Bool.false_and])
      revert e
      generalize (false : Bool) = u
      intro e
      exact key u e
theorem rV_spec (L : Laid w0.w) {s : List Chg} {N M : Int} (hs : s.length ≤ 140737488355328) (hR : R (.pv (.int .i64 (vF N M s))) σ) : SCalls (cx w0) selvageref06_Valid.id [.pv (.sl (s.map chgP)), .pv (.int .i64 N), .pv (.int .i64 M)] σ R := by
  refine SCalls.alone L rfl (fun w1 L1 => ?_) rfl hR
  have key : ∀ t, t = decide (N < 0 ∨ N > 4194304 ∨ M < 0 ∨ M > 4194304) → selvageref06_Valid.n5 (selvageref06_Valid.X w1 0) w1 0 (fun r' _ => r' = .pv (.int .i64 (vF N M s))) [] (.pv (.sl (s.map chgP))) N M t := by
    rintro t rfl
    refine selvageref06_Valid.n5_in ?_
    rw [selvageref06_Valid.b5_eq, condB_decide]
    refine ite_split (fun g => fin_keep (Nat.zero_le _) ?_) (fun g => ?_)
    · simp only [vF, if_pos g]
    · simp only [vF, if_neg g]
      exact val_loop (s.map chgP) (by simpa using hs) N M (by omega) (by omega) s 0 0 0 rfl (by omega) (by omega) (by omega) (by omega)
  refine selvageref06_Valid.calls ?_
  rw [selvageref06_Valid.b0_eq, condB_decide]
  refine ite_split (fun g => key _ (decide_eq_true (.inl g)).symm) (fun g1 => ?_)
  rw [condB_decide]
  refine ite_split (fun g => key _ (decide_eq_true (.inr (.inl g))).symm) (fun g2 => ?_)
  rw [condB_decide]
  refine ite_split (fun g => key _ (decide_eq_true (.inr (.inr (.inl g)))).symm) (fun g3 => key _ ?_)
  rw [decide_eq_decide]
  omega
abbrev pairsS (l : List (Nat × Nat)) : Store := [.arr 2 (l.map pairP) false]
abbrev pairsA (l : List (Nat × Nat)) : AV := .arr 0 l.length 0 l.length
theorem run_app : ∀ (k a b : Nat), run a b (k + 1) = run a b k ++ [(a + k, b + k)]
  | 0, a, b => rfl
  | k + 1, a, b => by
    rw [run, run_app k (a + 1) (b + 1), run, List.cons_append, show a + 1 + k = a + (k + 1) by omega, show b + 1 + k = b + (k + 1) by omega]
theorem pr_inner (s : AV) (N : Int) (i to_ : Nat) {R : AV → Store → Prop} (ht : to_ ≤ 4194304) : ∀ (j a b : Nat) (acc : List (Nat × Nat)), to_ = a + j → b + j ≤ 4194304 → acc.length + j ≤ 4194304 →
    selvageref06_pairs.n42 (selvageref06_pairs.X w0 0) w0 0 R (pairsS (acc ++ run a b j)) s N (pairsA (acc ++ run a b j)) (to_ : Nat) ((b + j : Nat) : Int) i →
    selvageref06_pairs.n29 (selvageref06_pairs.X w0 0) w0 0 R (pairsS acc) s N (pairsA acc) a b i (to_ : Nat) := by
  intro j
  induction j with
  | zero =>
    intro a b acc h hb hl hR
    refine selvageref06_pairs.n29_in ?_
    rw [selvageref06_pairs.b30_eq, condB_decide, if_neg (by omega)]
    simp only [run, List.append_nil, Nat.add_zero] at hR
    have h' : to_ = a := h
    rw [h'] at hR
    exact hR
  | succ j ih =>
    intro a b acc h hb hl hR
    refine selvageref06_pairs.n29_in ?_
    rw [selvageref06_pairs.b30_eq, condB_decide, if_pos (by omega)]
    repeat (first | ((with_reducible show opt _ _); refine opt_in rfl ?_) | ((with_reducible show isI _ _ _); refine isI_in ?_) | ((with_reducible show isTup _ _); refine isTup_in ?_) | ((with_reducible show isS _ _); refine isS_in ?_) | ((with_reducible show isB _ _); refine isB_in ?_))
    refine opt2_in rfl ?_
    refine opt2_in (append_pv (xs := acc.map pairP) (ys := [pairP (a, b)]) rfl rfl (by simp) rfl rfl ?_) ?_
    · rw [List.length_map]
      show (acc.length + 1 ≤ _ ∧ (acc.length + 1) * 16 ≤ _)
      omega
    rw [wrap_next (n := 4194305) (by omega) (by omega), wrap_next (n := 4194305) (by omega) (by omega)]
    have e : acc ++ run a b (j + 1) = (acc ++ [(a, b)]) ++ run (a + 1) (b + 1) j := by simp [run]
    rw [e, show b + (j + 1) = b + 1 + j by omega] at hR
    have := ih (a + 1) (b + 1) (acc ++ [(a, b)]) (by omega) (by omega) (by simp; omega) hR
    rw [show pairsA (acc ++ [(a, b)]) = .arr 0 ((acc.map pairP).length + [pairP (a, b)].length) 0 ((acc.map pairP).length + [pairP (a, b)].length) by simp [pairsA], show pairsS (acc ++ [(a, b)]) = [SObj.arr 2 (acc.map pairP ++ [pairP (a, b)]) false] by simp only [pairsS, List.map_append, List.map_cons, List.map_nil]] at this
    exact this
theorem pr_loop (N M : Nat) (hN : N ≤ 4194304) (hM : M ≤ 4194304) (xs : List PV) (hx : xs.length ≤ 140737488355328) : ∀ (r : List NC) (i a b : Nat) (acc : List (Nat × Nat)), xs.drop i = r.map ncP → chain N M r a b → acc.length + (prs N r a b).length ≤ 4194304 → xs.length = i + r.length →
    selvageref06_pairs.n10 (selvageref06_pairs.X w0 0) w0 0 (fun r' _ => r' = .pv (.sl ((acc ++ prs N r a b).map pairP))) (pairsS acc) (.pv (.sl xs)) N (pairsA acc) a b i
  | [], i, a, b, acc, h, hc, hl, hi => by
    obtain ⟨c1, c2, c3⟩ := hc
    simp only [List.length_nil, Nat.add_zero] at hi
    simp only [prs, run_len] at hl
    refine selvageref06_pairs.n10_in ?_
    rw [selvageref06_pairs.b11_eq]
    repeat (first | ((with_reducible show opt _ _); refine opt_in rfl ?_) | ((with_reducible show isI _ _ _); refine isI_in ?_) | ((with_reducible show isTup _ _); refine isTup_in ?_) | ((with_reducible show isS _ _); refine isS_in ?_) | ((with_reducible show isB _ _); refine isB_in ?_))
    rw [condB_decide, if_pos (by omega)]
    repeat (first | ((with_reducible show opt _ _); refine opt_in rfl ?_) | ((with_reducible show isI _ _ _); refine isI_in ?_) | ((with_reducible show isTup _ _); refine isTup_in ?_) | ((with_reducible show isS _ _); refine isS_in ?_) | ((with_reducible show isB _ _); refine isB_in ?_))
    rw [condB_decide, if_neg (by omega)]
    refine selvageref06_pairs.n27_in ?_
    rw [selvageref06_pairs.b27_eq]
    refine pr_inner (.pv (.sl xs)) N i N hN (N - a) a b acc (by omega) (by omega) (by omega) ?_
    refine selvageref06_pairs.n42_in ?_
    rw [selvageref06_pairs.b42_eq]
    repeat (first | ((with_reducible show opt _ _); refine opt_in rfl ?_) | ((with_reducible show isI _ _ _); refine isI_in ?_) | ((with_reducible show isTup _ _); refine isTup_in ?_) | ((with_reducible show isS _ _); refine isS_in ?_) | ((with_reducible show isB _ _); refine isB_in ?_))
    rw [condB_decide, if_neg (by omega)]
    refine selvageref06_pairs.n49_in ?_
    rw [selvageref06_pairs.b49_eq, wrap_next (n := xs.length + 1) (by omega) (by omega)]
    refine selvageref06_pairs.n10_in ?_
    rw [selvageref06_pairs.b11_eq]
    repeat (first | ((with_reducible show opt _ _); refine opt_in rfl ?_) | ((with_reducible show isI _ _ _); refine isI_in ?_) | ((with_reducible show isTup _ _); refine isTup_in ?_) | ((with_reducible show isS _ _); refine isS_in ?_) | ((with_reducible show isB _ _); refine isB_in ?_))
    rw [condB_decide, if_neg (by omega)]
    refine selvageref06_pairs.n50_in ?_
    rw [selvageref06_pairs.b50_eq]
    refine fin_seal (σ := []) (L := pairsS (acc ++ run a b (N - a))) glob0 rfl (r' := .pv (.sl ((acc ++ run a b (N - a)).map pairP))) ?_ rfl
    show (if ((acc ++ run a b (N - a)).map pairP).length = (acc ++ run a b (N - a)).length ∧ 0 + (acc ++ run a b (N - a)).length ≤ (acc ++ run a b (N - a)).length then some (AV.pv (.sl ((((acc ++ run a b (N - a)).map pairP).drop 0).take (acc ++ run a b (N - a)).length))) else none) = _
    rw [if_pos ⟨List.length_map _, by omega⟩, List.drop_zero, List.take_of_length_le (by rw [List.length_map]; exact Nat.le_refl _)]
  | c :: r, i, a, b, acc, h, hc, hl, hi => by
    obtain ⟨h1, h2, hk⟩ := drop_facts h
    obtain ⟨c1, c2, c3, c4, c5, c6, c7⟩ := hc
    simp only [List.length_cons] at hi
    simp only [prs, List.length_append, run_len] at hl
    have idx : ∀ σ, aIndexAddr σ tabS ti22.td (.pv (.sl xs)) (i : Int) = some (.ro (ncP c) 0) := fun σ => idx_ro tab48 h1 rfl
    refine selvageref06_pairs.n10_in ?_
    rw [selvageref06_pairs.b11_eq]
    repeat (first | ((with_reducible show opt _ _); refine opt_in rfl ?_) | ((with_reducible show isI _ _ _); refine isI_in ?_) | ((with_reducible show isTup _ _); refine isTup_in ?_) | ((with_reducible show isS _ _); refine isS_in ?_) | ((with_reducible show isB _ _); refine isB_in ?_))
    rw [condB_decide, if_pos (by omega)]
    repeat (first | ((with_reducible show opt _ _); refine opt_in rfl ?_) | ((with_reducible show isI _ _ _); refine isI_in ?_) | ((with_reducible show isTup _ _); refine isTup_in ?_) | ((with_reducible show isS _ _); refine isS_in ?_) | ((with_reducible show isB _ _); refine isB_in ?_))
    rw [condB_decide, if_pos (by omega)]
    refine opt_in (idx _) ?_
    repeat (first | ((with_reducible show opt _ _); refine opt_in rfl ?_) | ((with_reducible show isI _ _ _); refine isI_in ?_) | ((with_reducible show isTup _ _); refine isTup_in ?_) | ((with_reducible show isS _ _); refine isS_in ?_) | ((with_reducible show isB _ _); refine isB_in ?_))
    refine selvageref06_pairs.n27_in ?_
    rw [selvageref06_pairs.b27_eq]
    refine pr_inner (.pv (.sl xs)) N i c.a (by omega) (c.a - a) a b acc (by omega) (by omega) (by omega) ?_
    refine selvageref06_pairs.n42_in ?_
    rw [selvageref06_pairs.b42_eq]
    repeat (first | ((with_reducible show opt _ _); refine opt_in rfl ?_) | ((with_reducible show isI _ _ _); refine isI_in ?_) | ((with_reducible show isTup _ _); refine isTup_in ?_) | ((with_reducible show isS _ _); refine isS_in ?_) | ((with_reducible show isB _ _); refine isB_in ?_))
    rw [condB_decide, if_pos (by omega)]
    refine opt_in (idx _) ?_
    repeat (first | ((with_reducible show opt _ _); refine opt_in rfl ?_) | ((with_reducible show isI _ _ _); refine isI_in ?_) | ((with_reducible show isTup _ _); refine isTup_in ?_) | ((with_reducible show isS _ _); refine isS_in ?_) | ((with_reducible show isB _ _); refine isB_in ?_))
    refine opt_in (idx _) ?_
    repeat (first | ((with_reducible show opt _ _); refine opt_in rfl ?_) | ((with_reducible show isI _ _ _); refine isI_in ?_) | ((with_reducible show isTup _ _); refine isTup_in ?_) | ((with_reducible show isS _ _); refine isS_in ?_) | ((with_reducible show isB _ _); refine isB_in ?_))
    refine opt_in (idx _) ?_
    repeat (first | ((with_reducible show opt _ _); refine opt_in rfl ?_) | ((with_reducible show isI _ _ _); refine isI_in ?_) | ((with_reducible show isTup _ _); refine isTup_in ?_) | ((with_reducible show isS _ _); refine isS_in ?_) | ((with_reducible show isB _ _); refine isB_in ?_))
    refine opt_in (idx _) ?_
    repeat (first | ((with_reducible show opt _ _); refine opt_in rfl ?_) | ((with_reducible show isI _ _ _); refine isI_in ?_) | ((with_reducible show isTup _ _); refine isTup_in ?_) | ((with_reducible show isS _ _); refine isS_in ?_) | ((with_reducible show isB _ _); refine isB_in ?_))
    refine selvageref06_pairs.n49_in ?_
    rw [selvageref06_pairs.b49_eq, wrap_next (n := xs.length + 1) (by omega) (by omega), wrap_i64 (n := (c.a : Int) + (c.n : Nat)) (by omega) (by omega), wrap_i64 (n := (c.b : Int) + (c.m : Nat)) (by omega) (by omega)]
    have := pr_loop N M hN hM xs hx r (i + 1) (c.a + c.n) (c.b + c.m) (acc ++ run a b (c.a - a)) h2 c7 (by simp only [List.length_append, run_len]; omega) (by omega)
    rw [List.append_assoc] at this
    push_cast at this
    exact this
theorem pairs_spec (L : Laid w0.w) {N M : Nat} (hN : N ≤ 4194304) (hM : M ≤ 4194304) {s : List NC} (hs : s.length ≤ 140737488355328) (hc : chain N M s 0 0) (hR : R (.pv (.sl ((prs N s 0 0).map pairP))) σ) : SCalls (cx w0) selvageref06_pairs.id [.pv (.sl (s.map ncP)), .pv (.int .i64 (N : Nat))] σ R := by
  refine SCalls.alone L rfl (fun w1 L1 => ?_) rfl hR
  refine selvageref06_pairs.calls ?_
  rw [selvageref06_pairs.b0_eq]
  refine selvageref06_pairs.n10_weak (s' := .pv (.sl (s.map ncP))) (n_' := (N : Nat)) (out' := pairsA []) (a' := 0) (b' := 0) (i' := 0) (τ := pairsS []) (EWeak.nil (t := 5) (es := 2) rfl rfl) ?_
  have := pr_loop (w0 := w1) N M hN hM (s.map ncP) (by simpa using hs) s 0 0 0 [] rfl hc (by have := (prs_facts s 0 0 hc).2.1; simp only [List.length_nil]; omega) (by simp)
  exact this
abbrev ncS (l : List NC) : Store := [.arr 4 (l.map ncP) false]
abbrev ncA (l : List NC) : AV := .arr 0 l.length 0 l.length
def addN (acc : List NC) (a b x y : Nat) : List NC := acc ++ (if a < x ∨ b < y then [⟨a, x - a, b, y - b⟩] else [])
theorem of06_46 (l : AV) (N M : Int) (i a b x y : Nat) (acc : List NC) (hax : a ≤ x) (hby : b ≤ y) (hx : x ≤ 4194304) (hy : y ≤ 4194304) (hl : acc.length + 1 ≤ 8388608) {R : AV → Store → Prop} (t : Bool) (ht : t = decide (a < x ∨ b < y))
    (hR : selvageref06_Of.n49 (selvageref06_Of.X w0 0) w0 0 R (ncS (addN acc a b x y)) l N M (ncA (addN acc a b x y)) i x y) : selvageref06_Of.n46 (selvageref06_Of.X w0 0) w0 0 R (ncS acc) l N M (ncA acc) a b i x y t := by
  subst ht
  refine selvageref06_Of.n46_in ?_
  rw [selvageref06_Of.b46_eq, condB_decide]
  refine ite_split ?_ ?_
  · intro g
    rw [wrap_i64 (n := (x : Int) - a) (by omega) (by omega), wrap_i64 (n := (y : Int) - b) (by omega) (by omega), show (x : Int) - a = ((x - a : Nat) : Int) by omega, show (y : Int) - b = ((y - b : Nat) : Int) by omega]
    repeat (first | ((with_reducible show opt _ _); refine opt_in rfl ?_) | ((with_reducible show isI _ _ _); refine isI_in ?_) | ((with_reducible show isTup _ _); refine isTup_in ?_) | ((with_reducible show isS _ _); refine isS_in ?_) | ((with_reducible show isB _ _); refine isB_in ?_))
    refine opt2_in rfl ?_
    refine opt2_in (append_pv (xs := acc.map ncP) (ys := [ncP ⟨a, x - a, b, y - b⟩]) rfl rfl (by simp) rfl rfl ?_) ?_
    · rw [List.length_map]
      show (acc.length + 1 ≤ _ ∧ (acc.length + 1) * 32 ≤ _)
      omega
    have e : addN acc a b x y = acc ++ [⟨a, x - a, b, y - b⟩] := by rw [addN, if_pos g]
    rw [e] at hR
    rw [show ncA (acc ++ [(⟨a, x - a, b, y - b⟩ : NC)]) = .arr 0 ((acc.map ncP).length + [ncP ⟨a, x - a, b, y - b⟩].length) 0 ((acc.map ncP).length + [ncP ⟨a, x - a, b, y - b⟩].length) by simp [ncA], show ncS (acc ++ [(⟨a, x - a, b, y - b⟩ : NC)]) = [SObj.arr 4 (acc.map ncP ++ [ncP ⟨a, x - a, b, y - b⟩]) false] by simp only [ncS, List.map_append, List.map_cons, List.map_nil]] at hR
    exact hR
  · intro g
    have e : addN acc a b x y = acc := by rw [addN, if_neg g, List.append_nil]
    rw [e] at hR
    exact hR
theorem of06_43 (l : AV) (N M : Int) (i a b x y : Nat) (acc : List NC) (hax : a ≤ x) (hby : b ≤ y) (hx : x ≤ 4194304) (hy : y ≤ 4194304) (hl : acc.length + 1 ≤ 8388608) {R : AV → Store → Prop}
    (hR : selvageref06_Of.n49 (selvageref06_Of.X w0 0) w0 0 R (ncS (addN acc a b x y)) l N M (ncA (addN acc a b x y)) i x y) : selvageref06_Of.n43 (selvageref06_Of.X w0 0) w0 0 R (ncS acc) l N M (ncA acc) a b i x y := by
  refine selvageref06_Of.n43_in ?_
  rw [selvageref06_Of.b43_eq, condB_decide]
  refine ite_split ?_ ?_
  · intro g
    have e : true = decide (a < x ∨ b < y) := (decide_eq_true (.inl (by omega))).symm
    revert e
    generalize (true : Bool) = u
    intro e
    exact of06_46 l N M i a b x y acc hax hby hx hy hl u e hR
  · intro g
    have e : decide ((y : Int) > b) = decide (a < x ∨ b < y) := by
      rw [decide_eq_decide]
      omega
    revert e
    generalize (decide ((y : Int) > b)) = u
    intro e
    exact of06_46 l N M i a b x y acc hax hby hx hy hl u e hR
theorem of06_loop (N M : Nat) (hN : N ≤ 4194304) (hM : M ≤ 4194304) (xs : List PV) (hx : xs.length ≤ 4194304) : ∀ (r : List (Nat × Nat)) (i a b : Nat) (acc : List NC), xs.drop i = r.map pairP → incr N M r a b → acc.length + r.length + 1 ≤ 8388608 → xs.length = i + r.length →
    selvageref06_Of.n18 (selvageref06_Of.X w0 0) w0 0 (fun r' _ => r' = .tup [.pv (.sl ((acc ++ ofN N M r a b).map ncP)), .pv (.int .i64 0)]) (ncS acc) (.pv (.sl xs)) N M (ncA acc) a b i
  | [], i, a, b, acc, h, hc, hl, hi => by
    obtain ⟨c1, c2⟩ := hc
    simp only [List.length_nil, Nat.add_zero] at hi hl
    refine selvageref06_Of.n18_in ?_
    rw [selvageref06_Of.b19_eq]
    repeat (first | ((with_reducible show opt _ _); refine opt_in rfl ?_) | ((with_reducible show isI _ _ _); refine isI_in ?_) | ((with_reducible show isTup _ _); refine isTup_in ?_) | ((with_reducible show isS _ _); refine isS_in ?_) | ((with_reducible show isB _ _); refine isB_in ?_))
    rw [condB_decide, if_pos (by omega)]
    repeat (first | ((with_reducible show opt _ _); refine opt_in rfl ?_) | ((with_reducible show isI _ _ _); refine isI_in ?_) | ((with_reducible show isTup _ _); refine isTup_in ?_) | ((with_reducible show isS _ _); refine isS_in ?_) | ((with_reducible show isB _ _); refine isB_in ?_))
    rw [condB_decide, if_neg (by omega)]
    refine of06_43 (.pv (.sl xs)) N M i a b N M acc c1 c2 hN hM (by omega) ?_
    refine selvageref06_Of.n49_in ?_
    rw [selvageref06_Of.b49_eq, wrap_next (n := N + 1) (by omega) (by omega), wrap_next (n := M + 1) (by omega) (by omega), wrap_next (n := i + 1) (by omega) (by omega)]
    refine selvageref06_Of.n18_in ?_
    rw [selvageref06_Of.b19_eq]
    repeat (first | ((with_reducible show opt _ _); refine opt_in rfl ?_) | ((with_reducible show isI _ _ _); refine isI_in ?_) | ((with_reducible show isTup _ _); refine isTup_in ?_) | ((with_reducible show isS _ _); refine isS_in ?_) | ((with_reducible show isB _ _); refine isB_in ?_))
    rw [condB_decide, if_neg (by omega)]
    refine selvageref06_Of.n53_in ?_
    rw [selvageref06_Of.b53_eq]
    have e : acc ++ ofN N M [] a b = addN acc a b N M := rfl
    rw [e]
    generalize addN acc a b N M = z
    refine fin_seal (σ := []) (L := ncS z) glob0 rfl (r' := .tup [.pv (.sl (z.map ncP)), .pv (.int .i64 0)]) ?_ rfl
    have e : sealV 0 ([] ++ ncS z) (ncA z) = some (.pv (.sl (z.map ncP))) := by
      show (if (z.map ncP).length = z.length ∧ 0 + z.length ≤ z.length then some (AV.pv (.sl (((z.map ncP).drop 0).take z.length))) else none) = _
      rw [if_pos ⟨List.length_map _, by omega⟩, List.drop_zero, List.take_of_length_le (by rw [List.length_map]; exact Nat.le_refl _)]
    show (match sealV 0 ([] ++ ncS z) (ncA z), sealEs 0 ([] ++ ncS z) [.pv (.int .i64 0)] with
      | some b, some s => some (b :: s)
      | _, _ => none).map AV.tup = _
    rw [e]
    rfl
  | p :: r, i, a, b, acc, h, hc, hl, hi => by
    obtain ⟨h1, h2, hk⟩ := drop_facts h
    obtain ⟨c1, c2, c3, c4, c5⟩ := hc
    simp only [List.length_cons] at hi hl
    have idx : ∀ σ, aIndexAddr σ tabS ti42.td (.pv (.sl xs)) (i : Int) = some (.ro (pairP p) 0) := fun σ => idx_ro tab46 h1 rfl
    have next : selvageref06_Of.n43 (selvageref06_Of.X w0 0) w0 0 (fun r' _ => r' = .tup [.pv (.sl ((acc ++ ofN N M (p :: r) a b).map ncP)), .pv (.int .i64 0)]) (ncS acc) (.pv (.sl xs)) N M (ncA acc) a b i p.1 p.2 := by
      refine of06_43 (.pv (.sl xs)) N M i a b p.1 p.2 acc c1 c2 (by omega) (by omega) (by omega) ?_
      refine selvageref06_Of.n49_in ?_
      rw [selvageref06_Of.b49_eq, wrap_next (n := N + 1) (by omega) (by omega), wrap_next (n := M + 1) (by omega) (by omega), wrap_next (n := i + 1) (by omega) (by omega)]
      have hlen : (addN acc a b p.1 p.2).length ≤ acc.length + 1 := by
        unfold addN
        rw [List.length_append]
        split <;> simp
      have := of06_loop N M hN hM xs hx r (i + 1) (p.1 + 1) (p.2 + 1) (addN acc a b p.1 p.2) h2 c5 (by omega) (by omega)
      have e : acc ++ ofN N M (p :: r) a b = addN acc a b p.1 p.2 ++ ofN N M r (p.1 + 1) (p.2 + 1) := by
        rw [ofN, addN, List.append_assoc]
      rw [e]
      exact this
    refine selvageref06_Of.n18_in ?_
    rw [selvageref06_Of.b19_eq]
    repeat (first | ((with_reducible show opt _ _); refine opt_in rfl ?_) | ((with_reducible show isI _ _ _); refine isI_in ?_) | ((with_reducible show isTup _ _); refine isTup_in ?_) | ((with_reducible show isS _ _); refine isS_in ?_) | ((with_reducible show isB _ _); refine isB_in ?_))
    rw [condB_decide, if_pos (by omega)]
    repeat (first | ((with_reducible show opt _ _); refine opt_in rfl ?_) | ((with_reducible show isI _ _ _); refine isI_in ?_) | ((with_reducible show isTup _ _); refine isTup_in ?_) | ((with_reducible show isS _ _); refine isS_in ?_) | ((with_reducible show isB _ _); refine isB_in ?_))
    rw [condB_decide, if_pos (by omega)]
    refine opt_in (idx _) ?_
    repeat (first | ((with_reducible show opt _ _); refine opt_in rfl ?_) | ((with_reducible show isI _ _ _); refine isI_in ?_) | ((with_reducible show isTup _ _); refine isTup_in ?_) | ((with_reducible show isS _ _); refine isS_in ?_) | ((with_reducible show isB _ _); refine isB_in ?_))
    refine opt_in (idx _) ?_
    repeat (first | ((with_reducible show opt _ _); refine opt_in rfl ?_) | ((with_reducible show isI _ _ _); refine isI_in ?_) | ((with_reducible show isTup _ _); refine isTup_in ?_) | ((with_reducible show isS _ _); refine isS_in ?_) | ((with_reducible show isB _ _); refine isB_in ?_))
    refine ⟨opt_in (idx _) rfl, opt_in rfl rfl, opt_in rfl rfl, ?_⟩
    rw [condB_decide, if_neg (by omega), condB_decide, if_neg (by omega), condB_decide, if_neg (by omega)]
    refine selvageref06_Of.n37_in ?_
    rw [selvageref06_Of.b37_eq, condB_decide, if_neg (by omega)]
    exact next
theorem Of_spec06 (L : Laid w0.w) {N M : Nat} (hN : N ≤ 4194304) (hM : M ≤ 4194304) {l : List (Nat × Nat)} (hs : l.length ≤ 4194304) (hc : incr N M l 0 0) (hR : R (.tup [.pv (.sl ((ofN N M l 0 0).map ncP)), .pv (.int .i64 0)]) σ) : SCalls (cx w0) selvageref06_Of.id [.pv (.sl (l.map pairP)), .pv (.int .i64 (N : Nat)), .pv (.int .i64 (M : Nat))] σ R := by
  refine SCalls.alone L rfl (fun w1 L1 => ?_) rfl hR
  refine selvageref06_Of.calls ?_
  rw [selvageref06_Of.b0_eq, condB_decide, if_neg (by omega), condB_decide, if_neg (by omega), condB_decide, if_neg (by omega)]
  refine selvageref06_Of.n5_in ?_
  rw [selvageref06_Of.b5_eq, condB_decide, if_neg (by omega)]
  refine selvageref06_Of.n18_weak (l_' := .pv (.sl (l.map pairP))) (n_' := (N : Nat)) (m' := (M : Nat)) (out' := ncA []) (a' := 0) (b' := 0) (i' := 0) (τ := ncS []) (EWeak.nil (t := 8) (es := 4) rfl rfl) ?_
  have := of06_loop (w0 := w1) N M hN hM (l.map pairP) (by simpa using hs) l 0 0 0 [] rfl hc (by simp; omega) (by simp)
  exact this
theorem vF_good {N M : Nat} (hN : N ≤ 4194304) (hM : M ≤ 4194304) : ∀ {s : List Chg}, vF N M s = 0 → ∃ ns : List NC, s.map chgP = ns.map ncP ∧ chain N M ns 0 0 := by
  intro s h
  unfold vF at h
  rw [if_neg (by omega)] at h
  split at h
  · rename_i hv
    exact vL_chain N M s 0 0 (Nat.zero_le _) (Nat.zero_le _) hv
  · cases h
def ncC (c : NC) : Chg := ⟨c.a, c.n, c.b, c.m⟩
theorem ncC_map (s : List NC) : (s.map ncC).map chgP = s.map ncP := by
  rw [List.map_map]; rfl
theorem chain_vL {N M : Nat} : ∀ (s : List NC) (a b : Nat), chain N M s a b → vL N M (s.map ncC) a b = true
  | [], a, b, h => by
    obtain ⟨h1, h2, h3⟩ := h
    simp only [List.map_nil, vL, decide_eq_true_eq]; omega
  | c :: r, a, b, h => by
    obtain ⟨h1, h2, h3, h4, h5, h6, h7⟩ := h
    have ih := chain_vL r _ _ h7
    have hb : badG N M (ncC c) a b = false := by
      show (decide ((c.a : Int) < a) || decide ((c.b : Int) < b) || decide ((c.a : Int) > N) || decide ((c.b : Int) > M) || !decide ((c.a : Int) - a = c.b - b) || decide ((c.n : Int) < 0) || decide ((c.m : Int) < 0) || decide ((c.n : Int) > N - c.a) || decide ((c.m : Int) > M - c.b) || (decide ((c.n : Int) = 0) && decide ((c.m : Int) = 0))) = false
      have d10 : (decide ((c.n : Int) = 0) && decide ((c.m : Int) = 0)) = false := by
        rw [Bool.and_eq_false_iff, decide_eq_false_iff_not, decide_eq_false_iff_not]; omega
      rw [decide_eq_false (show ¬ ((c.a : Int) < a) by omega), decide_eq_false (show ¬ ((c.b : Int) < b) by omega), decide_eq_false (show ¬ ((c.a : Int) > N) by omega), decide_eq_false (show ¬ ((c.b : Int) > M) by omega), decide_eq_true (show (c.a : Int) - a = c.b - b by omega), decide_eq_false (show ¬ ((c.n : Int) < 0) by omega), decide_eq_false (show ¬ ((c.m : Int) < 0) by omega), decide_eq_false (show ¬ ((c.n : Int) > N - c.a) by omega), decide_eq_false (show ¬ ((c.m : Int) > M - c.b) by omega), d10]
      rfl
    simp only [List.map_cons, vL, hb, Bool.not_false, Bool.true_and]
    have e1 : (ncC c).a + (ncC c).n = ((c.a + c.n : Nat) : Int) := by simp [ncC]
    have e2 : (ncC c).b + (ncC c).m = ((c.b + c.m : Nat) : Int) := by simp [ncC]
    rw [e1, e2]
    exact ih
theorem Normal_good (L : Laid w0.w) {N M : Nat} (hN : N ≤ 4194304) (hM : M ≤ 4194304) {s : List NC} (hs : s.length ≤ 4194304) (hc : chain N M s 0 0) (hR : R (.tup [.pv (.sl ((normN N M s).map ncP)), .pv (.int .i64 0)]) σ) : SCalls (cx w0) selvageref06_Normal.id [.pv (.sl (s.map ncP)), .pv (.int .i64 (N : Nat)), .pv (.int .i64 (M : Nat))] σ R := by
  have hv : vF N M (s.map ncC) = 0 := by
    unfold vF
    rw [if_neg (by omega), if_pos (show vL N M (s.map ncC) 0 0 = true from chain_vL s 0 0 hc)]
  obtain ⟨g1, g2, g3⟩ := prs_facts s 0 0 hc
  refine selvageref06_Normal.calls ?_
  rw [selvageref06_Normal.b0_eq, ← ncC_map]
  refine rV_spec L (by simp; omega) ?_
  rw [hv, ncC_map]
  repeat (first | ((with_reducible show opt _ _); refine opt_in rfl ?_) | ((with_reducible show isI _ _ _); refine isI_in ?_) | ((with_reducible show isTup _ _); refine isTup_in ?_) | ((with_reducible show isS _ _); refine isS_in ?_) | ((with_reducible show isB _ _); refine isB_in ?_))
  rw [condB_ibne, if_pos rfl]
  refine pairs_spec L hN hM (by omega) hc ?_
  refine Of_spec06 L hN hM (by omega) g1 ?_
  repeat (first | ((with_reducible show opt _ _); refine opt_in rfl ?_) | ((with_reducible show isI _ _ _); refine isI_in ?_) | ((with_reducible show isTup _ _); refine isTup_in ?_) | ((with_reducible show isS _ _); refine isS_in ?_) | ((with_reducible show isB _ _); refine isB_in ?_))
  exact fin_same hR
theorem Normal_bad (L : Laid w0.w) {N M : Nat} {s : List Chg} (hs : s.length ≤ 4194304) (hv : vF N M s ≠ 0) (hR : R (.tup [.nilsl, .pv (.int .i64 (vF N M s))]) σ) : SCalls (cx w0) selvageref06_Normal.id [.pv (.sl (s.map chgP)), .pv (.int .i64 (N : Nat)), .pv (.int .i64 (M : Nat))] σ R := by
  refine selvageref06_Normal.calls ?_
  rw [selvageref06_Normal.b0_eq]
  refine rV_spec L (by omega) ?_
  repeat (first | ((with_reducible show opt _ _); refine opt_in rfl ?_) | ((with_reducible show isI _ _ _); refine isI_in ?_) | ((with_reducible show isTup _ _); refine isTup_in ?_) | ((with_reducible show isS _ _); refine isS_in ?_) | ((with_reducible show isB _ _); refine isB_in ?_))
  rw [condB_ibne, if_neg hv]
  exact fin_same hR
theorem Pairs_good (L : Laid w0.w) {N M : Nat} (hN : N ≤ 4194304) (hM : M ≤ 4194304) {s : List NC} (hs : s.length ≤ 8388608) (hc : chain N M s 0 0) (hR : R (.tup [.pv (.sl ((prs N s 0 0).map pairP)), .pv (.int .i64 0)]) σ) : SCalls (cx w0) selvageref06_Pairs.id [.pv (.sl (s.map ncP)), .pv (.int .i64 (N : Nat)), .pv (.int .i64 (M : Nat))] σ R := by
  have hv : vF N M (s.map ncC) = 0 := by
    unfold vF
    rw [if_neg (by omega), if_pos (show vL N M (s.map ncC) 0 0 = true from chain_vL s 0 0 hc)]
  refine selvageref06_Pairs.calls ?_
  rw [selvageref06_Pairs.b0_eq, ← ncC_map]
  refine rV_spec L (by simp; omega) ?_
  rw [hv, ncC_map]
  repeat (first | ((with_reducible show opt _ _); refine opt_in rfl ?_) | ((with_reducible show isI _ _ _); refine isI_in ?_) | ((with_reducible show isTup _ _); refine isTup_in ?_) | ((with_reducible show isS _ _); refine isS_in ?_) | ((with_reducible show isB _ _); refine isB_in ?_))
  rw [condB_ibne, if_pos rfl]
  refine pairs_spec L hN hM (by omega) hc ?_
  exact fin_same hR
theorem cost_loop (xs : List PV) (hx : xs.length ≤ 140737488355328) : ∀ (r : List NC) (i n m : Nat), xs.drop i = r.map ncP → n + sumn r ≤ 4294967296 → m + summ r ≤ 4294967296 →
    selvageref06_Cost.n8 (selvageref06_Cost.X w0 0) w0 0 (fun r' _ => r' = .tup [.pv (.int .i64 ((n + sumn r : Nat) : Int)), .pv (.int .i64 ((m + summ r : Nat) : Int))]) [] (.pv (.sl xs)) n m i
  | [], i, n, m, h, _, _ => by
    have hk := drop_end h
    refine selvageref06_Cost.n8_in ?_
    rw [selvageref06_Cost.b9_eq]
    repeat (first | ((with_reducible show opt _ _); refine opt_in rfl ?_) | ((with_reducible show isI _ _ _); refine isI_in ?_) | ((with_reducible show isTup _ _); refine isTup_in ?_) | ((with_reducible show isS _ _); refine isS_in ?_) | ((with_reducible show isB _ _); refine isB_in ?_))
    rw [condB_decide, if_neg (by omega)]
    refine selvageref06_Cost.n31_in ?_
    rw [selvageref06_Cost.b31_eq]
    exact fin_keep (Nat.zero_le _) rfl
  | c :: r, i, n, m, h, h3, h4 => by
    obtain ⟨h1, h2, hk⟩ := drop_facts h
    simp only [sumn, summ] at h3 h4
    have key : ∀ t, t = false → selvageref06_Cost.n22 (selvageref06_Cost.X w0 0) w0 0 (fun r' _ => r' = .tup [.pv (.int .i64 ((n + sumn (c :: r) : Nat) : Int)), .pv (.int .i64 ((m + summ (c :: r) : Nat) : Int))]) [.cells 48 [.pv (.int .i64 (c.a : Nat)), .pv (.int .i64 (c.n : Nat)), .pv (.int .i64 (c.b : Nat)), .pv (.int .i64 (c.m : Nat))]] (.pv (.sl xs)) n m i (.ptr 0 0) t := by
      intro t ht
      refine selvageref06_Cost.n22_in ?_
      rw [selvageref06_Cost.b22_eq]
      refine condB_split (fun g => by rw [ht] at g; cases g) (fun g => ?_)
      repeat (first | ((with_reducible show opt _ _); refine opt_in rfl ?_) | ((with_reducible show isI _ _ _); refine isI_in ?_) | ((with_reducible show isTup _ _); refine isTup_in ?_) | ((with_reducible show isS _ _); refine isS_in ?_) | ((with_reducible show isB _ _); refine isB_in ?_))
      rw [wrap_next hk (by omega), wrap_i64 (n := (n : Int) + (c.n : Nat)) (by omega) (by omega), wrap_i64 (n := (m : Int) + (c.m : Nat)) (by omega) (by omega)]
      refine selvageref06_Cost.n8_weak (EWeak.drop (τ := []) glob0 (Nat.zero_le _) rfl rfl) ?_
      have := cost_loop xs hx r (i + 1) (n + c.n) (m + c.m) h2 (by omega) (by omega)
      simp only [sumn, summ]
      rw [show n + (c.n + sumn r) = n + c.n + sumn r by omega, show m + (c.m + summ r) = m + c.m + summ r by omega]
      push_cast at this ⊢
      exact this
    refine selvageref06_Cost.n8_in ?_
    rw [selvageref06_Cost.b9_eq]
    repeat (first | ((with_reducible show opt _ _); refine opt_in rfl ?_) | ((with_reducible show isI _ _ _); refine isI_in ?_) | ((with_reducible show isTup _ _); refine isTup_in ?_) | ((with_reducible show isS _ _); refine isS_in ?_) | ((with_reducible show isB _ _); refine isB_in ?_))
    rw [condB_decide, if_pos (by omega)]
    refine opt_in (idx_ro tab48 h1 rfl) ?_
    repeat (first | ((with_reducible show opt _ _); refine opt_in rfl ?_) | ((with_reducible show isI _ _ _); refine isI_in ?_) | ((with_reducible show isTup _ _); refine isTup_in ?_) | ((with_reducible show isS _ _); refine isS_in ?_) | ((with_reducible show isB _ _); refine isB_in ?_))
    rw [condB_decide, if_neg (by omega)]
    repeat (first | ((with_reducible show opt _ _); refine opt_in rfl ?_) | ((with_reducible show isI _ _ _); refine isI_in ?_) | ((with_reducible show isTup _ _); refine isTup_in ?_) | ((with_reducible show isS _ _); refine isS_in ?_) | ((with_reducible show isB _ _); refine isB_in ?_))
    rw [condB_decide, if_neg (by omega)]
    repeat (first | ((with_reducible show opt _ _); refine opt_in rfl ?_) | ((with_reducible show isI _ _ _); refine isI_in ?_) | ((with_reducible show isTup _ _); refine isTup_in ?_) | ((with_reducible show isS _ _); refine isS_in ?_) | ((with_reducible show isB _ _); refine isB_in ?_))
    rw [condB_decide, if_neg (by omega)]
    repeat (first | ((with_reducible show opt _ _); refine opt_in rfl ?_) | ((with_reducible show isI _ _ _); refine isI_in ?_) | ((with_reducible show isTup _ _); refine isTup_in ?_) | ((with_reducible show isS _ _); refine isS_in ?_) | ((with_reducible show isB _ _); refine isB_in ?_))
    rw [condB_decide, if_neg (by omega)]
    repeat (first | ((with_reducible show opt _ _); refine opt_in rfl ?_) | ((with_reducible show isI _ _ _); refine isI_in ?_) | ((with_reducible show isTup _ _); refine isTup_in ?_) | ((with_reducible show isS _ _); refine isS_in ?_) | ((with_reducible show isB _ _); refine isB_in ?_))
    rw [wrap_i64 (n := 4611686018427387904 - (n : Int)) (by omega) (by omega), condB_decide, if_neg (by omega)]
    repeat (first | ((with_reducible show opt _ _); refine opt_in rfl ?_) | ((with_reducible show isI _ _ _); refine isI_in ?_) | ((with_reducible show isTup _ _); refine isTup_in ?_) | ((with_reducible show isS _ _); refine isS_in ?_) | ((with_reducible show isB _ _); refine isB_in ?_))
    rw [wrap_i64 (n := 4611686018427387904 - (m : Int)) (by omega) (by omega)]
    have e : decide ((c.m : Int) > 4611686018427387904 - (m : Int)) = false := decide_eq_false (by omega)
    revert e
    generalize (decide ((c.m : Int) > 4611686018427387904 - (m : Int))) = u
    intro e
    exact key u e
theorem Cost_spec (L : Laid w0.w) {s : List NC} (hs : s.length ≤ 140737488355328) (h1 : sumn s ≤ 4294967296) (h2 : summ s ≤ 4294967296) (hR : R (.tup [.pv (.int .i64 (sumn s : Nat)), .pv (.int .i64 (summ s : Nat))]) σ) : SCalls (cx w0) selvageref06_Cost.id [.pv (.sl (s.map ncP))] σ R := by
  refine SCalls.alone L rfl (fun w1 L1 => ?_) rfl hR
  refine selvageref06_Cost.calls ?_
  rw [selvageref06_Cost.b0_eq]
  have := cost_loop (w0 := w1) (s.map ncP) (by simpa using hs) s 0 0 0 rfl (by omega) (by omega)
  rw [Nat.zero_add, Nat.zero_add] at this
  exact this
end
end Go.Sv
