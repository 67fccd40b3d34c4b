/- The law StatCounts: what all hunks come to, on both sides. -/
import Derived.Test.YthkedonibhajbaaGreatDoorHk
import Derived.Test.YthkedonibhajbaaGreatDoorStM
import Derived.Test.YthkedonibhajbaaGreatDoorStA
import Derived.Test.YthkedonibhajbaaGreatDoorSvBk
set_option linter.unusedVariables false
set_option linter.unusedSimpArgs false
set_option maxRecDepth 100000
namespace Go.Sv
open Go Go.RowKit Go.Proofs
/-- A hunk that a machine holds. -/
structure HnkOK (h : Hnk) : Prop where
  rows : h.rows.length ≤ 1048576
  text : ∀ x ∈ h.rows, x.t.length ≤ 1048576
  head : h.head.length ≤ 1048576
  a : -9223372036854775808 ≤ h.a ∧ h.a ≤ 9223372036854775807
  b : -9223372036854775808 ≤ h.b ∧ h.b ≤ 9223372036854775807
def isAdd (k : Int) : Bool := k == 3
def isDel (k : Int) : Bool := k == 2
def ofP : List Hnk → Int → Int → Option (Int × Int)
  | [], a, d => some (a, d)
  | h :: l, a, d => if validF h = true then ofP l (cntF isAdd h.rows a) (cntF isDel h.rows d) else none
def sumF (f : Int → Bool) : List Hnk → Int → Int
  | [], a => a
  | h :: l, a => sumF f l (cntF f h.rows a)
def ofR (l : List Hnk) : Option (Int × Int) := if l.all validF = true then some (sumF isAdd l 0, sumF isDel l 0) else none
theorem ofP_eq : ∀ (l : List Hnk) (a d : Int), ofP l a d = if l.all validF = true then some (sumF isAdd l a, sumF isDel l d) else none
  | [], a, d => rfl
  | h :: l, a, d => by
    rw [ofP, ofP_eq l]
    cases hv : validF h with
    | true => simp [hv, sumF]
    | false => simp [hv]
abbrev cntA (nm : List UInt8) (a d : Int) : AV := .pv (.agg [.str nm, .int .i64 a, .int .i64 d])
def outO (err : Int → AV) (ok : AV) (nm : List UInt8) : Option (Int × Int) → AV
  | none => .tup [cntA [] 0 0, err 100]
  | some (a, d) => if a > 2147483647 ∨ d > 2147483647 then .tup [cntA [] 0 0, err 2] else .tup [cntA nm a d, ok]
abbrev outOP : List UInt8 → Option (Int × Int) → AV := outO (fun n => .pv (.iface 62 (.int .i64 n))) (.pv (.raw .nilIface))
abbrev outOR : List UInt8 → Option (Int × Int) → AV := outO (fun n => .pv (.int .i64 n)) (.pv (.int .i64 0))
section
variable {w0 : Base} {σ : Store} {R : AV → Store → Prop}
abbrev cntC (nm : List UInt8) (a d : Int) : List AV := [.pv (.str nm), .pv (.int .i64 a), .pv (.int .i64 d)]
/-- The rows of one hunk; behind them the next hunk. -/
theorem of_rows (nm : List UInt8) (h : Hnk) (ys : List PV) (m j : Int) (xs : List PV) (hx : xs.length ≤ 1048576) {R : AV → Store → Prop} : ∀ (r : List Row) (k : Nat) (a d : Int), xs.drop k = r.map rowP →
    (stat_Of.n56 (stat_Of.X w0 0) w0 0 R [.cells 31 (cntC [] 0 0), .cells 31 (cntC nm (cntF isAdd r a) (cntF isDel r d)), .cells 51 (hnkC h)] (.ptr 0 0) (.ptr 1 0) (.pv (.sl ys)) m j) →
    stat_Of.n32 (stat_Of.X w0 0) w0 0 R [.cells 31 (cntC [] 0 0), .cells 31 (cntC nm a d), .cells 51 (hnkC h)] (.ptr 0 0) (.ptr 1 0) (.pv (.sl ys)) m j (.pv (.sl xs)) xs.length k
  | [], k, a, d, hd, hR => by
    have hk := drop_end hd
    refine stat_Of.n32_in ?_
    rw [stat_Of.b33_eq, condB_decide, if_neg (by omega)]
    exact hR
  | c :: r, k, a, d, hd, hR => by
    obtain ⟨h1, h2, hk⟩ := drop_facts hd
    simp only [cntF] at hR
    have next : ∀ a' d', a' = (if isAdd c.k = true then IntKind.wrap .i64 (a + 1) else a) → d' = (if isDel c.k = true then IntKind.wrap .i64 (d + 1) else d) →
        stat_Of.n55 (stat_Of.X w0 0) w0 0 R [.cells 31 (cntC [] 0 0), .cells 31 (cntC nm a' d'), .cells 51 (hnkC h), .cells 61 [.pv (.int .i64 c.k), .pv (.str c.t)]] (.ptr 0 0) (.ptr 1 0) (.pv (.sl ys)) m j (.pv (.sl xs)) xs.length k := by
      intro a' d' ea ed
      rw [← ea, ← ed] at hR
      refine stat_Of.n55_in ?_
      rw [stat_Of.b55_eq, wrap_next hk (by omega)]
      exact stat_Of.n32_weak (EWeak.drop (τ := [.cells 31 (cntC [] 0 0), .cells 31 (cntC nm a' d'), .cells 51 (hnkC h)]) glob0 (Nat.zero_le _) rfl rfl) (of_rows nm h ys m j xs hx r (k + 1) a' d' h2 hR)
    refine stat_Of.n32_in ?_
    rw [stat_Of.b33_eq, condB_decide, if_pos (by omega)]
    refine opt_in (idx_ro tab61 h1 rfl) ?_
    repeat (first | ((with_reducible show opt _ _); refine opt_in rfl ?_) | ((with_reducible show isI _ _ _); refine isI_in ?_) | ((with_reducible show isTup _ _); refine isTup_in ?_) | ((with_reducible show isS _ _); refine isS_in ?_) | ((with_reducible show isB _ _); refine isB_in ?_))
    rw [condB_ibeq]
    refine ite_split (fun g => ?_) (fun g => ?_)
    · repeat (first | ((with_reducible show opt _ _); refine opt_in rfl ?_) | ((with_reducible show isI _ _ _); refine isI_in ?_) | ((with_reducible show isTup _ _); refine isTup_in ?_) | ((with_reducible show isS _ _); refine isS_in ?_) | ((with_reducible show isB _ _); refine isB_in ?_))
      refine next _ _ ?_ ?_
      · rw [g]; rfl
      · rw [g]; rfl
    · rw [condB_ibeq]
      have e1 : isAdd c.k = false := beq_false_of_ne g
      refine ite_split (fun g2 => ?_) (fun g2 => ?_)
      · repeat (first | ((with_reducible show opt _ _); refine opt_in rfl ?_) | ((with_reducible show isI _ _ _); refine isI_in ?_) | ((with_reducible show isTup _ _); refine isTup_in ?_) | ((with_reducible show isS _ _); refine isS_in ?_) | ((with_reducible show isB _ _); refine isB_in ?_))
        refine next _ _ ?_ ?_
        · rw [g2]; rfl
        · rw [g2]; rfl
      · have e2 : isDel c.k = false := beq_false_of_ne g2
        refine next _ _ ?_ ?_
        · rw [e1]; rfl
        · rw [e2]; rfl
theorem of_loop (L : Laid w0.w) (nm : List UInt8) (xs : List PV) (hx : xs.length ≤ 1048576) : ∀ (r : List Hnk) (k : Nat) (a d : Int), xs.drop k = r.map hnkP → (∀ x ∈ r, HnkOK x) →
    stat_Of.n8 (stat_Of.X w0 0) w0 0 (fun r' _ => r' = outOP nm (ofP r a d)) [.cells 31 (cntC [] 0 0), .cells 31 (cntC nm a d)] (.ptr 0 0) (.ptr 1 0) (.pv (.sl xs)) xs.length k
  | [], k, a, d, hd, _ => by
    have hk := drop_end hd
    have last : ∀ t, t = decide (a > 2147483647 ∨ d > 2147483647) → stat_Of.n60 (stat_Of.X w0 0) w0 0 (fun r' _ => r' = outOP nm (ofP [] a d)) [.cells 31 (cntC [] 0 0), .cells 31 (cntC nm a d)] (.ptr 0 0) (.ptr 1 0) t := by
      rintro t rfl
      refine stat_Of.n60_in ?_
      rw [stat_Of.b60_eq, condB_decide]
      refine ite_split (fun g => ?_) (fun g => ?_)
      · repeat (first | ((with_reducible show opt _ _); refine opt_in rfl ?_) | ((with_reducible show isI _ _ _); refine isI_in ?_) | ((with_reducible show isTup _ _); refine isTup_in ?_) | ((with_reducible show isS _ _); refine isS_in ?_) | ((with_reducible show isB _ _); refine isB_in ?_))
        refine fin_keep (Nat.zero_le _) ?_
        simp only [ofP, outOP, outO, if_pos g]; rfl
      · repeat (first | ((with_reducible show opt _ _); refine opt_in rfl ?_) | ((with_reducible show isI _ _ _); refine isI_in ?_) | ((with_reducible show isTup _ _); refine isTup_in ?_) | ((with_reducible show isS _ _); refine isS_in ?_) | ((with_reducible show isB _ _); refine isB_in ?_))
        refine fin_keep (Nat.zero_le _) ?_
        simp only [ofP, outOP, outO, if_neg g]; rfl
    refine stat_Of.n8_in ?_
    rw [stat_Of.b9_eq, condB_decide, if_neg (by omega)]
    refine stat_Of.n57_in ?_
    rw [stat_Of.b57_eq]
    repeat (first | ((with_reducible show opt _ _); refine opt_in rfl ?_) | ((with_reducible show isI _ _ _); refine isI_in ?_) | ((with_reducible show isTup _ _); refine isTup_in ?_) | ((with_reducible show isS _ _); refine isS_in ?_) | ((with_reducible show isB _ _); refine isB_in ?_))
    rw [condB_decide]
    refine ite_split (fun g => last _ ?_) (fun g => ?_)
    · exact (decide_eq_true (.inl g)).symm
    · repeat (first | ((with_reducible show opt _ _); refine opt_in rfl ?_) | ((with_reducible show isI _ _ _); refine isI_in ?_) | ((with_reducible show isTup _ _); refine isTup_in ?_) | ((with_reducible show isS _ _); refine isS_in ?_) | ((with_reducible show isB _ _); refine isB_in ?_))
      refine last _ ?_
      rw [decide_eq_decide]
      exact ⟨.inr, fun h => h.resolve_left g⟩
  | h :: r, k, a, d, hd, ht => by
    obtain ⟨h1, h2, hk⟩ := drop_facts hd
    have ok := ht h (by simp)
    refine stat_Of.n8_in ?_
    rw [stat_Of.b9_eq, condB_decide, if_pos (by omega)]
    refine opt_in (idx_ro tab51 h1 rfl) ?_
    repeat (first | ((with_reducible show opt _ _); refine opt_in rfl ?_) | ((with_reducible show isI _ _ _); refine isI_in ?_) | ((with_reducible show isTup _ _); refine isTup_in ?_) | ((with_reducible show isS _ _); refine isS_in ?_) | ((with_reducible show isB _ _); refine isB_in ?_))
    refine Valid_spec L (Nat.le_trans ok.rows (by decide)) (fun x hx => Nat.le_trans (ok.text x hx) (by decide)) (Nat.le_trans ok.head (by decide)) ok.a ok.b ?_
    cases hv : validF h with
    | false =>
      rw [vErr, if_neg (by decide), neq_raw]
      refine opt_in rfl (opt_in (v := false) rfl (isB_in ?_))
      refine condB_split (fun _ => ?_) (fun h => absurd h (by decide))
      repeat (first | ((with_reducible show opt _ _); refine opt_in rfl ?_) | ((with_reducible show isI _ _ _); refine isI_in ?_) | ((with_reducible show isTup _ _); refine isTup_in ?_) | ((with_reducible show isS _ _); refine isS_in ?_) | ((with_reducible show isB _ _); refine isB_in ?_))
      refine fin_keep (Nat.zero_le _) ?_
      simp only [ofP, hv, outOP, outO]; rfl
    | true =>
      rw [vErr, if_pos rfl, neq_raw]
      refine opt_in rfl (opt_in (v := true) rfl (isB_in ?_))
      refine condB_split (fun h => absurd h (by decide)) (fun _ => ?_)
      repeat (first | ((with_reducible show opt _ _); refine opt_in rfl ?_) | ((with_reducible show isI _ _ _); refine isI_in ?_) | ((with_reducible show isTup _ _); refine isTup_in ?_) | ((with_reducible show isS _ _); refine isS_in ?_) | ((with_reducible show isB _ _); refine isB_in ?_))
      refine of_rows nm h xs xs.length k (h.rows.map rowP) (by rw [List.length_map]; exact ok.rows) h.rows 0 a d rfl ?_
      refine stat_Of.n56_in ?_
      rw [stat_Of.b56_eq, wrap_next hk (by omega)]
      refine stat_Of.n8_weak (EWeak.drop (τ := [.cells 31 (cntC [] 0 0), .cells 31 (cntC nm (cntF isAdd h.rows a) (cntF isDel h.rows d))]) glob0 (Nat.zero_le _) rfl rfl) ?_
      simp only [ofP, if_pos hv]
      exact of_loop L nm xs hx r (k + 1) _ _ h2 (fun x hx => ht x (List.mem_cons_of_mem _ hx))
theorem outOP_under (nm : List UInt8) (x : Option (Int × Int)) : AV.under 0 (outOP nm x) = true := by
  unfold outOP outO; split
  · rfl
  · split <;> rfl
theorem outOR_under (nm : List UInt8) (x : Option (Int × Int)) : AV.under 0 (outOR nm x) = true := by
  unfold outOR outO; split
  · rfl
  · split <;> rfl
theorem Of_spec (L : Laid w0.w) {nm : List UInt8} {l : List Hnk} (hl : l.length ≤ 1048576) (ht : ∀ x ∈ l, HnkOK x) (hR : R (outOP nm (ofR l)) σ) : SCalls (cx w0) stat_Of.id [.pv (.str nm), hnksA l] σ R := by
  refine SCalls.alone L rfl (fun w1 L1 => ?_) (outOP_under _ _) hR
  refine stat_Of.calls ?_
  rw [stat_Of.b0_eq]
  repeat (first | ((with_reducible show opt _ _); refine opt_in rfl ?_) | ((with_reducible show isI _ _ _); refine isI_in ?_) | ((with_reducible show isTup _ _); refine isTup_in ?_) | ((with_reducible show isS _ _); refine isS_in ?_) | ((with_reducible show isB _ _); refine isB_in ?_))
  have := of_loop L1 nm (l.map hnkP) (by rw [List.length_map]; exact hl) l 0 0 0 rfl ht
  rw [ofP_eq] at this
  exact this
end
end Go.Sv
