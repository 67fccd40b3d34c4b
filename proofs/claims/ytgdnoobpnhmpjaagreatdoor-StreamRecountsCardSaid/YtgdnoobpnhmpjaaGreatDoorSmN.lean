/- Numbers at a text's beginning, on both sides; a hunk's first line. -/
import Derived.Test.YtgdnoobpnhmpjaaGreatDoorSmM
import Derived.Test.YtgdnoobpnhmpjaaGreatDoorSmI
import Derived.Test.YtgdnoobpnhmpjaaGreatDoorSmV
import Derived.Test.YtgdnoobpnhmpjaaGreatDoorSh2
import Derived.Test.YtgdnoobpnhmpjaaGreatDoorSvE
import Derived.Lib.IndexBytes
set_option linter.unusedVariables false
set_option linter.unusedSimpArgs false
set_option maxRecDepth 100000
namespace Go.Sv
open Go Go.RowKit Go.Proofs
def isDig (c : UInt8) : Bool := decide (48 ≤ c.toNat) && decide (c.toNat ≤ 57)
def valD (n : Nat) : Ln → Nat
  | [] => n
  | c :: r => valD (n * 10 + (c.toNat - 48)) r
abbrev digs (s : Ln) : Ln := s.takeWhile isDig
abbrev rest (s : Ln) : Ln := s.dropWhile isDig
def numF (s : Ln) : Option (Nat × Ln) := if digs s = [] ∨ 2147483647 < valD 0 (digs s) then none else some (valD 0 (digs s), rest s)
def rangeF (s : Ln) : Option (Nat × Ln) := match numF s with
  | none => none
  | some (a, t) => match behF t [44] with
    | none => some (a, t)
    | some u => match numF u with
      | none => none
      | some (_, v) => some (a, v)
theorem valD_app (n : Nat) (s t : Ln) : valD n (s ++ t) = valD (valD n s) t := by
  induction s generalizing n with
  | nil => rfl
  | cons c s ih => exact ih _
theorem valD_ge : ∀ (s : Ln) (n : Nat), n ≤ valD n s
  | [], n => Nat.le_refl _
  | c :: s, n => Nat.le_trans (by omega) (valD_ge s (n * 10 + (c.toNat - 48)))
section
variable {w0 : Base} {σ : Store} {R : AV → Store → Prop}
theorem min_val {n d : Nat} (hn : n ≤ 2147483648) (hd : d ≤ 9) {v : Nat} (hv : n = min v 2147483648) : (if (2147483648 : Int) < ((n * 10 + d : Nat) : Int) then (2147483648 : Int) else ((n * 10 + d : Nat) : Int)) = ((min (v * 10 + d) 2147483648 : Nat) : Int) := by
  subst hv
  split <;> omega
theorem rnum_loop {s : Ln} (hs : s.length ≤ 1099511627776) (hR : R (.tup [.pv (.int .i64 ((min (valD 0 (digs s)) 2147483648 : Nat) : Int)), .pv (.str (rest s)), .pv (.bool (decide (digs s ≠ []) && decide (valD 0 (digs s) ≤ 2147483647)))]) σ) : ∀ (q i : Nat) (n : Nat), i + q = s.length → digs s = s.take i ++ digs (s.drop i) → rest s = rest (s.drop i) → n = min (valD 0 (s.take i)) 2147483648 → selvageref11_Number.n6 (selvageref11_Number.X w0 σ.length) w0 σ.length R σ s i (n : Nat)
  | q, i, n, hi, hd, hr, hn => by
    have stop : digs (s.drop i) = [] → selvageref11_Number.n17 (selvageref11_Number.X w0 σ.length) w0 σ.length R σ s i (n : Nat) := by
      intro h
      rw [h, List.append_nil] at hd
      have hr2 : rest (s.drop i) = s.drop i := by
        have : digs (s.drop i) ++ rest (s.drop i) = s.drop i := List.takeWhile_append_dropWhile
        rw [h, List.nil_append] at this
        exact this
      rw [hr2] at hr
      have hl : (s.take i).length = i := by rw [List.length_take]; omega
      have e1 : decide (digs s ≠ []) = decide (0 < i) := by
        rw [hd, decide_eq_decide]
        constructor
        · intro h; rcases Nat.eq_zero_or_pos i with e | e
          · subst e; exact absurd rfl h
          · exact e
        · intro h e; rw [e] at hl; simp at hl; omega
      have e2 : decide (valD 0 (digs s) ≤ 2147483647) = decide ((n : Int) ≤ 2147483647) := by
        rw [hd, decide_eq_decide, hn]; omega
      rw [e1, e2, hr, hd, ← hn] at hR
      refine selvageref11_Number.n17_in ?_
      rw [selvageref11_Number.b17_eq]
      refine opt_in (slice_drop (by omega)) (isS_in ?_)
      rw [condB_decide]
      refine ite_split (fun g => ⟨opt_in (slice_drop (by omega)) rfl, ?_⟩) (fun g => ⟨opt_in (slice_drop (by omega)) rfl, ?_⟩)
      · refine selvageref11_Number.n19_in ?_
        rw [selvageref11_Number.b19_eq]
        rw [decide_eq_true (show 0 < i by omega), Bool.true_and] at hR
        exact fin_same hR
      · refine selvageref11_Number.n19_in ?_
        rw [selvageref11_Number.b19_eq]
        rw [decide_eq_false (show ¬ 0 < i by omega), Bool.false_and] at hR
        exact fin_same hR
    have no : ∀ b : Bool, b = false → digs (s.drop i) = [] → selvageref11_Number.n10 (selvageref11_Number.X w0 σ.length) w0 σ.length R σ s i (n : Nat) b := by
      rintro b rfl h
      refine selvageref11_Number.n10_in ?_
      rw [selvageref11_Number.b10_eq, condB_false']
      exact stop h
    refine selvageref11_Number.n6_in ?_
    rw [selvageref11_Number.b7_eq, condB_decide]
    refine ite_split (fun g => ?_) (fun g => no _ rfl ?_)
    · have hlt : i < s.length := by omega
      have gc : s[i]? = some s[i] := List.getElem?_eq_getElem hlt
      have hcons : s.drop i = s[i] :: s.drop (i + 1) := List.drop_eq_getElem_cons hlt
      generalize s[i] = c at gc hcons
      refine opt_in (idx_str gc) (isI_in ?_)
      rw [condB_decide]
      refine ite_split (fun g1 => ?_) (fun g1 => no _ rfl ?_)
      · refine opt_in (idx_str gc) (isI_in ?_)
        by_cases g2 : c.toNat ≤ 57
        · have hdig : isDig c = true := by unfold isDig; rw [decide_eq_true (by omega), decide_eq_true g2]; rfl
          rw [show decide ((c.toNat : Int) ≤ 57) = true by simp; omega]
          refine selvageref11_Number.n10_in ?_
          rw [selvageref11_Number.b10_eq, condB_true']
          refine opt_in (idx_str gc) (isI_in ?_)
          have hnb : n ≤ 2147483648 := by omega
          have hc := c.toNat_lt
          have w1 : IntKind.wrap .u8 ((c.toNat : Int) - 48) = ((c.toNat - 48 : Nat) : Int) := by rw [wrap_u8 (by omega) (by omega)]; omega
          rw [wrap_next hlt (by omega), w1, wrap_i64 (n := (n : Int) * 10) (by omega) (by omega), wrap_i64 (n := ((c.toNat - 48 : Nat) : Int)) (by omega) (by omega), wrap_i64 (by omega) (by omega), show (n : Int) * 10 + ((c.toNat - 48 : Nat) : Int) = ((n * 10 + (c.toNat - 48) : Nat) : Int) by omega, min_val hnb (by omega) hn]
          have ht : s.take (i + 1) = s.take i ++ [c] := by rw [List.take_add_one, gc]; rfl
          cases q with
          | zero => omega
          | succ q =>
            refine rnum_loop hs hR q (i + 1) _ (by omega) ?_ ?_ ?_
            · rw [hd, hcons, ht, List.append_assoc, digs, List.takeWhile_cons, if_pos hdig]; rfl
            · rw [hr, hcons, rest, List.dropWhile_cons, if_pos hdig]
            · rw [ht, valD_app]; rfl
        · rw [show decide ((c.toNat : Int) ≤ 57) = false by simp; omega]
          refine no _ rfl ?_
          have hdig : isDig c = false := by unfold isDig; rw [decide_eq_false g2, Bool.and_false]
          rw [hcons, digs, List.takeWhile_cons, if_neg (by rw [hdig]; decide)]
      · have hdig : isDig c = false := by unfold isDig; rw [decide_eq_false (by omega), Bool.false_and]
        rw [hcons, digs, List.takeWhile_cons, if_neg (by rw [hdig]; decide)]
    · rw [List.drop_eq_nil_of_le (by omega)]; rfl
theorem Number_spec {s : Ln} (hs : s.length ≤ 1099511627776) (h1 : ∀ a t, numF s = some (a, t) → R (.tup [.pv (.int .i64 (a : Nat)), .pv (.str t), .pv (.bool true)]) σ) (h2 : numF s = none → ∀ a t, R (.tup [.pv (.int .i64 a), .pv (.str t), .pv (.bool false)]) σ) : SCalls (cx w0) selvageref11_Number.id [.pv (.str s)] σ R := by
  refine selvageref11_Number.calls ?_
  rw [selvageref11_Number.b0_eq]
  refine rnum_loop hs ?_ s.length 0 0 (Nat.zero_add _) (by simp) (by simp) rfl
  by_cases e : digs s = [] ∨ 2147483647 < valD 0 (digs s)
  · have hf : (decide (digs s ≠ []) && decide (valD 0 (digs s) ≤ 2147483647)) = false := by
      rw [Bool.and_eq_false_iff, decide_eq_false_iff_not, decide_eq_false_iff_not]
      rcases e with e | e
      · exact .inl (fun h => h e)
      · exact .inr (by omega)
    rw [hf]
    exact h2 (by unfold numF; rw [if_pos e]) _ _
  · have ⟨e1, e2⟩ := not_or.1 e
    have ht : (decide (digs s ≠ []) && decide (valD 0 (digs s) ≤ 2147483647)) = true := by rw [decide_eq_true e1, decide_eq_true (by omega)]; rfl
    rw [ht, Nat.min_eq_left (by omega)]
    exact h1 _ _ (by unfold numF; rw [if_neg e])
theorem rest_le (s : Ln) : (rest s).length ≤ s.length := (List.dropWhile_sublist isDig).length_le
theorem behF_len {s w t : Ln} (h : behF s w = some t) : t.length ≤ s.length := by
  unfold behF at h
  split at h
  · cases h; rw [List.length_drop]; omega
  · cases h
theorem numF_len {s t : Ln} {a : Nat} (h : numF s = some (a, t)) : t.length ≤ s.length := by
  unfold numF at h
  split at h
  · cases h
  · cases h; exact rest_le s
theorem rranged_spec {s : Ln} (hs : s.length ≤ 1099511627776) (h1 : ∀ a t, rangeF s = some (a, t) → R (.tup [.pv (.int .i64 (a : Nat)), .pv (.str t), .pv (.bool true)]) σ) (h2 : rangeF s = none → ∀ a t, R (.tup [.pv (.int .i64 a), .pv (.str t), .pv (.bool false)]) σ) : SCalls (cx w0) selvageref28_ranged.id [.pv (.str s), .pv (.bool true)] σ R := by
  refine selvageref28_ranged.calls ?_
  rw [selvageref28_ranged.b0_eq, show (!true) = false from rfl, condB_false']
  refine Number_spec hs (fun a t e => ?_) (fun e a t => ?_)
  · repeat ((with_reducible first | apply opt_in | apply wI | apply wT | apply wP | apply wS | apply wB); exact rfl)
    rw [show (!true) = false from rfl, condB_false']
    refine Behind_spec ?_
    unfold behA
    cases hb : behF t [44] with
    | none =>
      repeat ((with_reducible first | apply opt_in | apply wI | apply wT | apply wP | apply wS | apply wB); exact rfl)
      rw [show (!false) = true from rfl, condB_true']
      exact fin_same (h1 a t (by unfold rangeF; rw [e]; simp only [hb]))
    | some u =>
      repeat ((with_reducible first | apply opt_in | apply wI | apply wT | apply wP | apply wS | apply wB); exact rfl)
      rw [show (!true) = false from rfl, condB_false']
      refine Number_spec (Nat.le_trans (behF_len hb) (Nat.le_trans (numF_len e) hs)) (fun b v e2 => ?_) (fun e2 b v => ?_)
      · repeat ((with_reducible first | apply opt_in | apply wI | apply wT | apply wP | apply wS | apply wB); exact rfl)
        exact fin_same (h1 a v (by unfold rangeF; rw [e]; simp only [hb, e2]))
      · repeat ((with_reducible first | apply opt_in | apply wI | apply wT | apply wP | apply wS | apply wB); exact rfl)
        exact fin_same (h2 (by unfold rangeF; rw [e]; simp only [hb, e2]) _ _)
  · repeat ((with_reducible first | apply opt_in | apply wI | apply wT | apply wP | apply wS | apply wB); exact rfl)
    rw [show (!false) = true from rfl, condB_true']
    exact fin_same (h2 (by unfold rangeF; rw [e]) _ _)
theorem rranged_no {s : Ln} (h : R (.tup [.pv (.int .i64 0), .pv (.str s), .pv (.bool false)]) σ) : SCalls (cx w0) selvageref28_ranged.id [.pv (.str s), .pv (.bool false)] σ R := by
  refine selvageref28_ranged.calls ?_
  rw [selvageref28_ranged.b0_eq, show (!false) = true from rfl, condB_true']
  exact fin_same h
end
end Go.Sv
