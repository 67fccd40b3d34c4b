/- What all hunks come to, on both sides. -/
import Derived.Test.YtgdnoobpnhmpjaaGreatDoorSmB
import Derived.Test.YtgdnoobpnhmpjaaGreatDoorHl
import Derived.Test.YtgdnoobpnhmpjaaGreatDoorSvBk
set_option linter.unusedVariables false
set_option linter.unusedSimpArgs false
set_option maxRecDepth 100000
namespace Go.Sv
open Go Go.RowKit Go.Proofs
def isAdd (k : Int) : Bool := k == 3
def isDel (k : Int) : Bool := k == 2
def ofP : List Hnk → Int → Int → Option (Int × Int)
  | [], a, d => some (a, d)
  | h :: l, a, d => if validF h = true then ofP l (cntF isAdd h.rows a) (cntF isDel h.rows d) else none
def sumF (f : Int → Bool) : List Hnk → Int → Int
  | [], a => a
  | h :: l, a => sumF f l (cntF f h.rows a)
def ofR (l : List Hnk) : Option (Int × Int) := if l.all validF = true then some (sumF isAdd l 0, sumF isDel l 0) else none
theorem ofP_eq : ∀ (l : List Hnk) (a d : Int), ofP l a d = if l.all validF = true then some (sumF isAdd l a, sumF isDel l d) else none
  | [], a, d => rfl
  | h :: l, a, d => by
    rw [ofP, ofP_eq l]
    cases hv : validF h with
    | true => simp [hv, sumF]
    | false => simp [hv]
abbrev cntA (nm : List UInt8) (a d : Int) : AV := .pv (.agg [.str nm, .int .i64 a, .int .i64 d])
def outO (err : Int → AV) (ok : AV) (nm : List UInt8) : Option (Int × Int) → AV
  | none => .tup [cntA [] 0 0, err 100]
  | some (a, d) => if a > 2147483647 ∨ d > 2147483647 then .tup [cntA [] 0 0, err 2] else .tup [cntA nm a d, ok]
abbrev outOP : List UInt8 → Option (Int × Int) → AV := outO (fun n => .pv (.iface 61 (.int .i64 n))) (.pv (.raw .nilIface))
abbrev outOR : List UInt8 → Option (Int × Int) → AV := outO (fun n => .pv (.int .i64 n)) (.pv (.int .i64 0))
section
variable {w0 : Base} {σ : Store} {R : AV → Store → Prop}
abbrev cntC (nm : List UInt8) (a d : Int) : List AV := [.pv (.str nm), .pv (.int .i64 a), .pv (.int .i64 d)]
theorem of_rows (nm : List UInt8) (h : Hnk) (ys : List PV) (m j : Int) (xs : List PV) (hx : xs.length ≤ 1048576) {R : AV → Store → Prop} : ∀ (r : List Row) (k : Nat) (a d : Int), xs.drop k = r.map rowP →
    (stat_Of.n56 (stat_Of.X w0 0) w0 0 R [.cells 56 (cntC [] 0 0), .cells 56 (cntC nm (cntF isAdd r a) (cntF isDel r d)), .cells 46 (hnkC h)] (.ptr 0 0) (.ptr 1 0) (.pv (.sl ys)) m j) →
    stat_Of.n32 (stat_Of.X w0 0) w0 0 R [.cells 56 (cntC [] 0 0), .cells 56 (cntC nm a d), .cells 46 (hnkC h)] (.ptr 0 0) (.ptr 1 0) (.pv (.sl ys)) m j (.pv (.sl xs)) xs.length k
  | [], k, a, d, hd, hR => by
    have hk := drop_end hd
    refine stat_Of.n32_in ?_
    rw [stat_Of.b33_eq, condB_decide, if_neg (by omega)]
    exact hR
  | c :: r, k, a, d, hd, hR => by
    obtain ⟨h1, h2, hk⟩ := drop_facts hd
    simp only [cntF] at hR
    have next : ∀ a' d', a' = (if isAdd c.k = true then IntKind.wrap .i64 (a + 1) else a) → d' = (if isDel c.k = true then IntKind.wrap .i64 (d + 1) else d) →
        stat_Of.n55 (stat_Of.X w0 0) w0 0 R [.cells 56 (cntC [] 0 0), .cells 56 (cntC nm a' d'), .cells 46 (hnkC h), .cells 79 [.pv (.int .i64 c.k), .pv (.str c.t)]] (.ptr 0 0) (.ptr 1 0) (.pv (.sl ys)) m j (.pv (.sl xs)) xs.length k := by
      intro a' d' ea ed
      rw [← ea, ← ed] at hR
      refine stat_Of.n55_in ?_
      rw [stat_Of.b55_eq, wrap_next hk (by omega)]
      exact stat_Of.n32_weak (EWeak.drop (τ := [.cells 56 (cntC [] 0 0), .cells 56 (cntC nm a' d'), .cells 46 (hnkC h)]) glob0 (Nat.zero_le _) rfl rfl) (of_rows nm h ys m j xs hx r (k + 1) a' d' h2 hR)
    refine stat_Of.n32_in ?_
    rw [stat_Of.b33_eq, condB_decide, if_pos (by omega)]
    refine opt_in (idx_ro tab79 h1 rfl) ?_
    repeat ((with_reducible first | apply opt_in | apply wI | apply wT | apply wP | apply wS | apply wB); exact rfl)
    rw [condB_ibeq]
    refine ite_split (fun g => ?_) (fun g => ?_)
    · repeat ((with_reducible first | apply opt_in | apply wI | apply wT | apply wP | apply wS | apply wB); exact rfl)
      refine next _ _ ?_ ?_
      · rw [g]; rfl
      · rw [g]; rfl
    · rw [condB_ibeq]
      have e1 : isAdd c.k = false := beq_false_of_ne g
      refine ite_split (fun g2 => ?_) (fun g2 => ?_)
      · repeat ((with_reducible first | apply opt_in | apply wI | apply wT | apply wP | apply wS | apply wB); exact rfl)
        refine next _ _ ?_ ?_
        · rw [g2]; rfl
        · rw [g2]; rfl
      · have e2 : isDel c.k = false := beq_false_of_ne g2
        refine next _ _ ?_ ?_
        · rw [e1]; rfl
        · rw [e2]; rfl
theorem of_loop (L : Laid w0.w) (nm : List UInt8) (xs : List PV) (hx : xs.length ≤ 1048576) : ∀ (r : List Hnk) (k : Nat) (a d : Int), xs.drop k = r.map hnkP → (∀ x ∈ r, HnkOK x) →
    stat_Of.n8 (stat_Of.X w0 0) w0 0 (fun r' _ => r' = outOP nm (ofP r a d)) [.cells 56 (cntC [] 0 0), .cells 56 (cntC nm a d)] (.ptr 0 0) (.ptr 1 0) (.pv (.sl xs)) xs.length k
  | [], k, a, d, hd, _ => by
    have hk := drop_end hd
    have last : ∀ t, t = decide (a > 2147483647 ∨ d > 2147483647) → stat_Of.n60 (stat_Of.X w0 0) w0 0 (fun r' _ => r' = outOP nm (ofP [] a d)) [.cells 56 (cntC [] 0 0), .cells 56 (cntC nm a d)] (.ptr 0 0) (.ptr 1 0) t := by
      rintro t rfl
      refine stat_Of.n60_in ?_
      rw [stat_Of.b60_eq, condB_decide]
      refine ite_split (fun g => ?_) (fun g => ?_)
      · repeat ((with_reducible first | apply opt_in | apply wI | apply wT | apply wP | apply wS | apply wB); exact rfl)
        refine fin_keep (Nat.zero_le _) ?_
        simp only [ofP, outOP, outO, if_pos g]; rfl
      · repeat ((with_reducible first | apply opt_in | apply wI | apply wT | apply wP | apply wS | apply wB); exact rfl)
        refine fin_keep (Nat.zero_le _) ?_
        simp only [ofP, outOP, outO, if_neg g]; rfl
    refine stat_Of.n8_in ?_
    rw [stat_Of.b9_eq, condB_decide, if_neg (by omega)]
    refine stat_Of.n57_in ?_
    rw [stat_Of.b57_eq]
    repeat ((with_reducible first | apply opt_in | apply wI | apply wT | apply wP | apply wS | apply wB); exact rfl)
    rw [condB_decide]
    refine ite_split (fun g => last _ ?_) (fun g => ?_)
    · exact (decide_eq_true (.inl g)).symm
    · repeat ((with_reducible first | apply opt_in | apply wI | apply wT | apply wP | apply wS | apply wB); exact rfl)
      refine last _ ?_
      rw [decide_eq_decide]
      exact ⟨.inr, fun h => h.resolve_left g⟩
  | h :: r, k, a, d, hd, ht => by
    obtain ⟨h1, h2, hk⟩ := drop_facts hd
    have ok := ht h (by simp)
    refine stat_Of.n8_in ?_
    rw [stat_Of.b9_eq, condB_decide, if_pos (by omega)]
    refine opt_in (idx_ro tab46 h1 rfl) ?_
    repeat ((with_reducible first | apply opt_in | apply wI | apply wT | apply wP | apply wS | apply wB); exact rfl)
    refine Valid_spec L (Nat.le_trans ok.rows (by decide)) (fun x hx => Nat.le_trans (ok.text x hx) (by decide)) (Nat.le_trans ok.head (by decide)) ok.a ok.b ?_
    cases hv : validF h with
    | false =>
      rw [vErr, if_neg (by decide), neq_raw]
      refine opt_in rfl (opt_in (v := false) rfl (isB_in ?_))
      refine condB_split (fun _ => ?_) (fun h => absurd h (by decide))
      repeat ((with_reducible first | apply opt_in | apply wI | apply wT | apply wP | apply wS | apply wB); exact rfl)
      refine fin_keep (Nat.zero_le _) ?_
      simp only [ofP, hv, outOP, outO]; rfl
    | true =>
      rw [vErr, if_pos rfl, neq_raw]
      refine opt_in rfl (opt_in (v := true) rfl (isB_in ?_))
      refine condB_split (fun h => absurd h (by decide)) (fun _ => ?_)
      repeat ((with_reducible first | apply opt_in | apply wI | apply wT | apply wP | apply wS | apply wB); exact rfl)
      refine of_rows nm h xs xs.length k (h.rows.map rowP) (by rw [List.length_map]; exact ok.rows) h.rows 0 a d rfl ?_
      refine stat_Of.n56_in ?_
      rw [stat_Of.b56_eq, wrap_next hk (by omega)]
      refine stat_Of.n8_weak (EWeak.drop (τ := [.cells 56 (cntC [] 0 0), .cells 56 (cntC nm (cntF isAdd h.rows a) (cntF isDel h.rows d))]) glob0 (Nat.zero_le _) rfl rfl) ?_
      simp only [ofP, if_pos hv]
      exact of_loop L nm xs hx r (k + 1) _ _ h2 (fun x hx => ht x (List.mem_cons_of_mem _ hx))
theorem outOP_under (nm : List UInt8) (x : Option (Int × Int)) : AV.under 0 (outOP nm x) = true := by
  unfold outOP outO; split
  · rfl
  · split <;> rfl
theorem outOR_under (nm : List UInt8) (x : Option (Int × Int)) : AV.under 0 (outOR nm x) = true := by
  unfold outOR outO; split
  · rfl
  · split <;> rfl
theorem Of_spec (L : Laid w0.w) {nm : List UInt8} {l : List Hnk} (hl : l.length ≤ 1048576) (ht : ∀ x ∈ l, HnkOK x) (hR : R (outOP nm (ofR l)) σ) : SCalls (cx w0) stat_Of.id [.pv (.str nm), hnksA l] σ R := by
  refine SCalls.alone L rfl (fun w1 L1 => ?_) (outOP_under _ _) hR
  refine stat_Of.calls ?_
  rw [stat_Of.b0_eq]
  repeat ((with_reducible first | apply opt_in | apply wI | apply wT | apply wP | apply wS | apply wB); exact rfl)
  have := of_loop L1 nm (l.map hnkP) (by rw [List.length_map]; exact hl) l 0 0 0 rfl ht
  rw [ofP_eq] at this
  exact this
theorem rof_rows (nm : List UInt8) (h : Hnk) (ys : List PV) (j : Nat) (hj : ys[j]? = some (hnkP h)) (hx : h.rows.length ≤ 1048576) {R : AV → Store → Prop} : ∀ (r : List Row) (k : Nat) (a d : Int), (h.rows.map rowP).drop k = r.map rowP →
    (selvageref16_Of.n63 (selvageref16_Of.X w0 0) w0 0 R [.cells 55 (cntC [] 0 0), .cells 55 (cntC nm (cntF isAdd r a) (cntF isDel r d))] (.pv (.sl ys)) (.ptr 0 0) (.ptr 1 0) j) →
    selvageref16_Of.n41 (selvageref16_Of.X w0 0) w0 0 R [.cells 55 (cntC [] 0 0), .cells 55 (cntC nm a d)] (.pv (.sl ys)) (.ptr 0 0) (.ptr 1 0) j k
  | [], k, a, d, hd, hR => by
    have hk := drop_end hd
    refine selvageref16_Of.n41_in ?_
    rw [selvageref16_Of.b42_eq]
    refine opt_in (idx_ro tab46 hj rfl) ?_
    repeat ((with_reducible first | apply opt_in | apply wI | apply wT | apply wP | apply wS | apply wB); exact rfl)
    rw [condB_decide, if_neg (by omega)]
    exact hR
  | c :: r, k, a, d, hd, hR => by
    obtain ⟨h1, h2, hk⟩ := drop_facts hd
    rw [List.length_map] at hk
    simp only [cntF] at hR
    have next : ∀ a' d', a' = (if isAdd c.k = true then IntKind.wrap .i64 (a + 1) else a) → d' = (if isDel c.k = true then IntKind.wrap .i64 (d + 1) else d) →
        selvageref16_Of.n62 (selvageref16_Of.X w0 0) w0 0 R [.cells 55 (cntC [] 0 0), .cells 55 (cntC nm a' d')] (.pv (.sl ys)) (.ptr 0 0) (.ptr 1 0) j k := by
      intro a' d' ea ed
      rw [← ea, ← ed] at hR
      refine selvageref16_Of.n62_in ?_
      rw [selvageref16_Of.b62_eq, wrap_next hk (by omega)]
      exact rof_rows nm h ys j hj hx r (k + 1) a' d' h2 hR
    refine selvageref16_Of.n41_in ?_
    rw [selvageref16_Of.b42_eq]
    refine opt_in (idx_ro tab46 hj rfl) ?_
    repeat ((with_reducible first | apply opt_in | apply wI | apply wT | apply wP | apply wS | apply wB); exact rfl)
    rw [condB_decide, if_pos (by rw [List.length_map]; omega)]
    refine opt_in (idx_ro tab46 hj rfl) ?_
    repeat ((with_reducible first | apply opt_in | apply wI | apply wT | apply wP | apply wS | apply wB); exact rfl)
    refine opt_in (idx_ro tab79 h1 rfl) ?_
    repeat ((with_reducible first | apply opt_in | apply wI | apply wT | apply wP | apply wS | apply wB); exact rfl)
    rw [condB_ibeq]
    refine ite_split (fun g => ?_) (fun g => ?_)
    · repeat ((with_reducible first | apply opt_in | apply wI | apply wT | apply wP | apply wS | apply wB); exact rfl)
      refine next _ _ ?_ ?_
      · rw [g]; rfl
      · rw [g]; rfl
    · rw [condB_ibeq]
      have e1 : isDel c.k = false := beq_false_of_ne g
      refine ite_split (fun g2 => ?_) (fun g2 => ?_)
      · repeat ((with_reducible first | apply opt_in | apply wI | apply wT | apply wP | apply wS | apply wB); exact rfl)
        refine next _ _ ?_ ?_
        · rw [g2]; rfl
        · rw [g2]; rfl
      · have e2 : isAdd c.k = false := beq_false_of_ne g2
        refine next _ _ ?_ ?_
        · rw [e2]; rfl
        · rw [e1]; rfl
theorem rof_loop2 (nm : List UInt8) (xs : List PV) (hx : xs.length ≤ 1048576) (v : Option (Int × Int)) : ∀ (r : List Hnk) (k : Nat) (a d : Int), xs.drop k = r.map hnkP → (∀ x ∈ r, HnkOK x) → v = some (sumF isAdd r a, sumF isDel r d) →
    selvageref16_Of.n29 (selvageref16_Of.X w0 0) w0 0 (fun r' _ => r' = outOR nm v) [.cells 55 (cntC [] 0 0), .cells 55 (cntC nm a d)] (.pv (.sl xs)) (.ptr 0 0) (.ptr 1 0) k
  | [], k, a, d, hd, _, hv => by
    subst hv
    have hk := drop_end hd
    have last : ∀ t, t = decide (a > 2147483647 ∨ d > 2147483647) → selvageref16_Of.n67 (selvageref16_Of.X w0 0) w0 0 (fun r' _ => r' = outOR nm (some (a, d))) [.cells 55 (cntC [] 0 0), .cells 55 (cntC nm a d)] (.ptr 0 0) (.ptr 1 0) t := by
      rintro t rfl
      refine selvageref16_Of.n67_in ?_
      rw [selvageref16_Of.b67_eq, condB_decide]
      refine ite_split (fun g => ?_) (fun g => ?_)
      · repeat ((with_reducible first | apply opt_in | apply wI | apply wT | apply wP | apply wS | apply wB); exact rfl)
        refine fin_keep (Nat.zero_le _) ?_
        simp only [outOR, outO, if_pos g]; rfl
      · repeat ((with_reducible first | apply opt_in | apply wI | apply wT | apply wP | apply wS | apply wB); exact rfl)
        refine fin_keep (Nat.zero_le _) ?_
        simp only [outOR, outO, if_neg g]; rfl
    refine selvageref16_Of.n29_in ?_
    rw [selvageref16_Of.b30_eq]
    repeat ((with_reducible first | apply opt_in | apply wI | apply wT | apply wP | apply wS | apply wB); exact rfl)
    rw [condB_decide, if_neg (by omega)]
    refine selvageref16_Of.n64_in ?_
    rw [selvageref16_Of.b64_eq]
    repeat ((with_reducible first | apply opt_in | apply wI | apply wT | apply wP | apply wS | apply wB); exact rfl)
    rw [condB_decide]
    refine ite_split (fun g => last _ ?_) (fun g => ?_)
    · exact (decide_eq_true (.inl g)).symm
    · repeat ((with_reducible first | apply opt_in | apply wI | apply wT | apply wP | apply wS | apply wB); exact rfl)
      refine last _ ?_
      rw [decide_eq_decide]
      exact ⟨.inr, fun h => h.resolve_left g⟩
  | h :: r, k, a, d, hd, ht, hv => by
    obtain ⟨h1, h2, hk⟩ := drop_facts hd
    have ok := ht h (by simp)
    refine selvageref16_Of.n29_in ?_
    rw [selvageref16_Of.b30_eq]
    repeat ((with_reducible first | apply opt_in | apply wI | apply wT | apply wP | apply wS | apply wB); exact rfl)
    rw [condB_decide, if_pos (by omega)]
    refine rof_rows nm h xs k h1 ok.rows h.rows 0 a d rfl ?_
    refine selvageref16_Of.n63_in ?_
    rw [selvageref16_Of.b63_eq, wrap_next hk (by omega)]
    exact rof_loop2 nm xs hx v r (k + 1) _ _ h2 (fun x hx => ht x (List.mem_cons_of_mem _ hx)) hv
theorem rof_loop (L : Laid w0.w) (nm : List UInt8) (l : List Hnk) (hl : l.length ≤ 1048576) (hall : ∀ x ∈ l, HnkOK x) : ∀ (r : List Hnk) (k : Nat), (l.map hnkP).drop k = r.map hnkP → (∀ x ∈ r, HnkOK x) → l.all validF = r.all validF →
    selvageref16_Of.n8 (selvageref16_Of.X w0 0) w0 0 (fun r' _ => r' = outOR nm (ofR l)) [.cells 55 (cntC [] 0 0), .cells 55 (cntC nm 0 0)] (hnksA l) (.ptr 0 0) (.ptr 1 0) k
  | [], k, hd, _, hv => by
    have hk := drop_end hd
    refine selvageref16_Of.n8_in ?_
    rw [selvageref16_Of.b9_eq]
    repeat ((with_reducible first | apply opt_in | apply wI | apply wT | apply wP | apply wS | apply wB); exact rfl)
    rw [condB_decide, if_neg (by omega)]
    refine selvageref16_Of.n25_in ?_
    rw [selvageref16_Of.b25_eq]
    exact rof_loop2 nm (l.map hnkP) (by rw [List.length_map]; exact hl) (ofR l) l 0 0 0 rfl hall (by unfold ofR; rw [hv]; rfl)
  | h :: r, k, hd, ht, hv => by
    obtain ⟨h1, h2, hk⟩ := drop_facts hd
    have hk' := hk
    rw [List.length_map] at hk'
    have ok := ht h (by simp)
    refine selvageref16_Of.n8_in ?_
    rw [selvageref16_Of.b9_eq]
    repeat ((with_reducible first | apply opt_in | apply wI | apply wT | apply wP | apply wS | apply wB); exact rfl)
    rw [condB_decide, if_pos (by omega)]
    refine opt_in (idx_ro tab46 h1 rfl) ?_
    repeat ((with_reducible first | apply opt_in | apply wI | apply wT | apply wP | apply wS | apply wB); exact rfl)
    refine rValid_spec L (Nat.le_trans ok.rows (by decide)) (fun x hx => Nat.le_trans (ok.text x hx) (by decide)) (Nat.le_trans ok.head (by decide)) ?_
    refine isI_in ?_
    rw [condB_ibne]
    cases hb : validF h with
    | true =>
      rw [if_pos rfl, if_pos rfl, wrap_next hk' (by omega)]
      exact rof_loop L nm l hl hall r (k + 1) h2 (fun x hx => ht x (List.mem_cons_of_mem _ hx)) (by rw [hv, List.all_cons, hb, Bool.true_and])
    | false =>
      rw [if_neg (by decide)]
      repeat ((with_reducible first | apply opt_in | apply wI | apply wT | apply wP | apply wS | apply wB); exact rfl)
      refine fin_keep (Nat.zero_le _) ?_
      have : l.all validF = false := by rw [hv, List.all_cons, hb, Bool.false_and]
      simp only [ofR, this, outOR, outO]; rfl
theorem rOf_spec (L : Laid w0.w) {nm : List UInt8} {l : List Hnk} (hl : l.length ≤ 1048576) (ht : ∀ x ∈ l, HnkOK x) (hR : R (outOR nm (ofR l)) σ) : SCalls (cx w0) selvageref16_Of.id [.pv (.str nm), hnksA l] σ R := by
  refine SCalls.alone L rfl (fun w1 L1 => ?_) (outOR_under _ _) hR
  refine selvageref16_Of.calls ?_
  rw [selvageref16_Of.b0_eq]
  repeat ((with_reducible first | apply opt_in | apply wI | apply wT | apply wP | apply wS | apply wB); exact rfl)
  exact rof_loop L1 nm l hl ht l 0 rfl ht rfl
end
end Go.Sv
