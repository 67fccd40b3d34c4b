/- Hunks and their rows, as plain data: what the code asks of them, on both sides. The document's answer for hunks (selvageref10.Valid and what it calls): what it answers. The program's hunks.Valid and what it calls: what it answers. -/
import Derived.Test.YtgdnoobpnhmpjaaGreatDoorSvV
import Derived.Lib.Strings
import Derived.Lib.IndexAny
import Derived.Test.YtgdnoobpnhmpjaaGreatDoorFnH
import Derived.Test.YtgdnoobpnhmpjaaGreatDoorFnG
set_option linter.unusedVariables false
set_option linter.unusedSimpArgs false
set_option maxRecDepth 100000
namespace Go.Sv
section
open Go Go.RowKit
structure Row where
  k : Int
  t : List UInt8
abbrev rowP (r : Row) : PV := .agg [.int .i64 r.k, .str r.t]
structure Hnk where
  a : Int
  n : Int
  b : Int
  m : Int
  head : List UInt8
  rows : List Row
abbrev rowsP (l : List Row) : PV := .sl (l.map rowP)
abbrev hnkP (h : Hnk) : PV := .agg [.int .i64 h.a, .int .i64 h.n, .int .i64 h.b, .int .i64 h.m, .str h.head, rowsP h.rows]
abbrev hnksA (l : List Hnk) : AV := .pv (.sl (l.map hnkP))
def wholeB (s : List UInt8) : Bool := match s.getLast? with
  | some c => c == 10
  | none => false
def lineB (s : List UInt8) : Bool := !(s == []) && !(s.dropLast.contains 10)
def bareB (s : List UInt8) : List UInt8 := if wholeB s = true then s.dropLast else s
theorem suffix_whole (s : List UInt8) : Lib.hasSuffix s [10] = wholeB s := by
  rcases List.eq_nil_or_concat s with rfl | ⟨p, c, rfl⟩
  · rfl
  · simp only [Lib.hasSuffix, List.concat_eq_append, wholeB, List.getLast?_append, List.getLast?_singleton, Option.some_or]
    rw [Bool.eq_iff_iff, List.isSuffixOf_iff_suffix, beq_iff_eq]
    constructor
    · rintro ⟨t, h⟩
      have := List.append_inj' h rfl
      exact (List.cons.inj this.2).1.symm
    · rintro rfl; exact ⟨p, rfl⟩
theorem trim_bare (s : List UInt8) : Lib.trimSuffix s [10] = bareB s := by
  unfold Lib.trimSuffix bareB
  rw [suffix_whole]
  split
  · rw [List.dropLast_eq_take]; rfl
  · rfl
theorem line_same (s : List UInt8) : (!(s == []) && !(decide (0 ≤ Lib.indexByte (bareB s) 10))) = lineB s := by
  rw [← Lib.contains_iff_indexByte]
  unfold lineB bareB
  rcases List.eq_nil_or_concat s with rfl | ⟨p, c, rfl⟩
  · rfl
  · rw [List.concat_eq_append]
    have hw : wholeB (p ++ [c]) = (c == 10) := by simp [wholeB]
    rw [hw]
    by_cases h : c = 10
    · subst h; simp
    · rw [if_neg (by simpa using h)]
      simp [List.dropLast_concat, Ne.symm h]
def isOld (k : Int) : Bool := k == 1 || k == 2
def isNew (k : Int) : Bool := k == 1 || k == 3
def badR (r : Row) (e o : Bool) : Bool := (!isOld r.k && !isNew r.k) || !lineB r.t || (isOld r.k && e) || (isNew r.k && o)
def rowsF : List Row → Bool → Bool → Bool → Bool
  | [], _, _, c => c
  | r :: l, e, o, c => if badR r e o = true then false else rowsF l (e || (!wholeB r.t && isOld r.k)) (o || (!wholeB r.t && isNew r.k)) (c || !(r.k == 1))
def cntF (f : Int → Bool) : List Row → Int → Int
  | [], n => n
  | r :: l, n => cntF f l (if f r.k = true then IntKind.wrap .i64 (n + 1) else n)
structure Sd where
  n : Int
  e : Bool
abbrev sdA (s : Sd) : AV := .pv (.agg [.int .i64 s.n, .bool s.e])
def addF (s : Sd) (t : List UInt8) : Sd := if s.e = true then s else ⟨IntKind.wrap .i64 (s.n + 1), !wholeB t⟩
def kindB (k : Int) : Bool := decide (1 ≤ k) && decide (k ≤ 3)
def sidesF : List Row → Sd → Sd → Bool → Sd × Sd × Bool
  | [], p, q, c => (p, q, c)
  | r :: l, p, q, c =>
    if kindB r.k = true ∧ lineB r.t = true then
      if r.k ≠ 3 ∧ p.e = true then (p, q, false) else
      if r.k ≠ 2 ∧ q.e = true then (if r.k ≠ 3 then addF p r.t else p, q, false) else
      sidesF l (if r.k ≠ 3 then addF p r.t else p) (if r.k ≠ 2 then addF q r.t else q) (c || !(r.k == 1))
    else (p, q, false)
def outS (x : Sd × Sd × Bool) : AV := .tup [sdA x.1, sdA x.2.1, .pv (.bool x.2.2)]
theorem kind_cases {k : Int} (h : kindB k = true) : k = 1 ∨ k = 2 ∨ k = 3 := by
  simp [kindB] at h; omega
theorem sides_same : ∀ (l : List Row) (p q : Sd) (c : Bool), (sidesF l p q c).2.2 = rowsF l p.e q.e c ∧ (rowsF l p.e q.e c = true → (sidesF l p q c).1.n = cntF isOld l p.n ∧ (sidesF l p q c).2.1.n = cntF isNew l q.n)
  | [], p, q, c => ⟨rfl, fun _ => ⟨rfl, rfl⟩⟩
  | r :: l, p, q, c => by
    unfold sidesF rowsF cntF
    by_cases h1 : kindB r.k = true ∧ lineB r.t = true
    · rw [if_pos h1]
      obtain ⟨hk, hl⟩ := h1
      have ih := sides_same l (if r.k ≠ 3 then addF p r.t else p) (if r.k ≠ 2 then addF q r.t else q) (c || !(r.k == 1))
      rcases kind_cases hk with e | e | e <;> cases hp : p.e <;> cases hq : q.e <;> simp [e, badR, isOld, isNew, hl, hp, hq, addF] at ih ⊢
      all_goals exact ih
    · rw [if_neg h1]
      have : badR r p.e q.e = true := by
        unfold badR
        by_cases hl : lineB r.t = true
        · have hk : kindB r.k = false := by
            cases h : kindB r.k with
            | false => rfl
            | true => exact absurd ⟨h, hl⟩ h1
          have h2 : isOld r.k = false := by
            simp [kindB] at hk; simp [isOld]; omega
          have h3 : isNew r.k = false := by
            simp [kindB] at hk; simp [isNew]; omega
          simp [h2, h3]
        · simp [hl]
      rw [if_pos this]
      exact ⟨rfl, fun h => by cases h⟩
theorem cntF_le (f : Int → Bool) : ∀ (l : List Row) (n : Int), 0 ≤ n → n + l.length ≤ 9223372036854775807 → n ≤ cntF f l n ∧ cntF f l n ≤ n + l.length
  | [], n, _, _ => by simp [cntF]
  | r :: l, n, h0, h1 => by
    unfold cntF
    simp only [List.length_cons] at h1 ⊢
    split
    · rw [wrap_i64 (by omega) (by omega)]
      have := cntF_le f l (n + 1) (by omega) (by omega)
      omega
    · have := cntF_le f l n h0 (by omega)
      omega
def placeB (a n : Int) : Bool := decide (0 ≤ n) && decide (0 ≤ a) && (decide (0 < a) || n == 0) && decide (a ≤ 2147483647) && decide (n ≤ IntKind.wrap .i64 (2147483647 - a))
def startB (a n : Int) : Bool := decide ((if n = 0 then 0 else 1) ≤ a) && decide (a ≤ IntKind.wrap .i64 (2147483647 - n))
theorem place_start {a n : Int} (h0 : 0 ≤ n) (h1 : n ≤ 9223372036854775807) (a0 : -9223372036854775808 ≤ a) (a1 : a ≤ 9223372036854775807) : placeB a n = startB a n := by
  unfold placeB startB
  rw [wrap_i64 (n := 2147483647 - n) (by omega) (by omega)]
  by_cases ha : 0 ≤ a
  · rw [wrap_i64 (n := 2147483647 - a) (by omega) (by omega)]
    rw [Bool.eq_iff_iff]
    simp only [Bool.and_eq_true, Bool.or_eq_true, decide_eq_true_eq, beq_iff_eq]
    split <;> omega
  · have e1 : decide (0 ≤ a) = false := by simpa using ha
    rw [e1]
    rw [Bool.eq_iff_iff]
    simp only [Bool.and_eq_true, Bool.or_eq_true, decide_eq_true_eq, beq_iff_eq, Bool.and_false, Bool.false_and]
    split <;> simp <;> omega
def validF (h : Hnk) : Bool := rowsF h.rows false false false && h.n == cntF isOld h.rows 0 && h.m == cntF isNew h.rows 0 && startB h.a (cntF isOld h.rows 0) && startB h.b (cntF isNew h.rows 0) && decide (h.head.length ≤ 4096) && !h.head.contains 10
end
section
open Go Go.RowKit Go.Proofs
theorem toNat_ten (c : UInt8) : ((c.toNat : Int) = 10) ↔ c = 10 := by
  constructor
  · intro h
    have h' : c.toNat = (10 : UInt8).toNat := by simpa using (by omega : c.toNat = 10)
    exact UInt8.toNat_inj.1 h'
  · rintro rfl; rfl
section
variable {w0 : Base} {σ : Store} {R : AV → Store → Prop}
theorem old_spec (L : Laid w0.w) {r : Row} (hR : R (.pv (.bool (isOld r.k))) σ) : SCalls (cx w0) selvageref10_old.id [.pv (rowP r)] σ R := by
  refine SCalls.alone L rfl (fun w1 L1 => ?_) rfl hR
  have fin : ∀ σ' t, t = isOld r.k → selvageref10_old.n4 (selvageref10_old.X w1 0) w1 0 (fun r' _ => r' = .pv (.bool (isOld r.k))) σ' t := by
    rintro σ' t rfl
    refine selvageref10_old.n4_in ?_
    rw [selvageref10_old.b4_eq]
    exact fin_keep (Nat.zero_le _) rfl
  refine selvageref10_old.calls ?_
  rw [selvageref10_old.b0_eq]
  refine ⟨rfl, ?_⟩
  repeat ((with_reducible first | apply opt_in | apply wI | apply wT | apply wP | apply wS | apply wB); exact rfl)
  refine condB_split (fun h => fin _ _ ?_) (fun h => ?_)
  · rw [isOld, h]; rfl
  · repeat ((with_reducible first | apply opt_in | apply wI | apply wT | apply wP | apply wS | apply wB); exact rfl)
    refine fin _ _ ?_
    rw [isOld, h]; rfl
theorem fresh_spec (L : Laid w0.w) {r : Row} (hR : R (.pv (.bool (isNew r.k))) σ) : SCalls (cx w0) selvageref10_fresh.id [.pv (rowP r)] σ R := by
  refine SCalls.alone L rfl (fun w1 L1 => ?_) rfl hR
  have fin : ∀ σ' t, t = isNew r.k → selvageref10_fresh.n4 (selvageref10_fresh.X w1 0) w1 0 (fun r' _ => r' = .pv (.bool (isNew r.k))) σ' t := by
    rintro σ' t rfl
    refine selvageref10_fresh.n4_in ?_
    rw [selvageref10_fresh.b4_eq]
    exact fin_keep (Nat.zero_le _) rfl
  refine selvageref10_fresh.calls ?_
  rw [selvageref10_fresh.b0_eq]
  refine ⟨rfl, ?_⟩
  repeat ((with_reducible first | apply opt_in | apply wI | apply wT | apply wP | apply wS | apply wB); exact rfl)
  refine condB_split (fun h => fin _ _ ?_) (fun h => ?_)
  · rw [isNew, h]; rfl
  · repeat ((with_reducible first | apply opt_in | apply wI | apply wT | apply wP | apply wS | apply wB); exact rfl)
    refine fin _ _ ?_
    rw [isNew, h]; rfl
theorem rline_loop (s : List UInt8) (hs : s.length ≤ 140737488355328) : ∀ (r : List UInt8) (k : Nat), s.drop k = r → R (.pv (.bool (!(s == []) && !(r.dropLast.contains 10)))) σ → selvageref10_line.n6 (selvageref10_line.X w0 σ.length) w0 σ.length R σ s k
  | [], k, h, hR => by
    have hk := drop_end h
    refine selvageref10_line.n6_in ?_
    rw [selvageref10_line.b7_eq, condB_decide, wrap_i64 (by omega) (by omega), if_neg (by omega)]
    refine selvageref10_line.n23_in ?_
    rw [selvageref10_line.b23_eq]
    refine fin_same ?_
    simpa using hR
  | [c], k, h, hR => by
    obtain ⟨h1, h2, hk⟩ := drop_facts h
    have := drop_end h2
    refine selvageref10_line.n6_in ?_
    rw [selvageref10_line.b7_eq, condB_decide, wrap_i64 (by omega) (by omega), if_neg (by omega)]
    refine selvageref10_line.n23_in ?_
    rw [selvageref10_line.b23_eq]
    refine fin_same ?_
    simpa using hR
  | c :: d :: r, k, h, hR => by
    obtain ⟨h1, h2, hk⟩ := drop_facts h
    obtain ⟨_, _, hk2⟩ := drop_facts h2
    refine selvageref10_line.n6_in ?_
    rw [selvageref10_line.b7_eq, condB_decide, wrap_i64 (by omega) (by omega), if_pos (by omega)]
    refine opt_in (idx_str h1) (isI_in ?_)
    rw [condB_ibeq]
    simp only [List.dropLast_cons_cons, List.contains_cons] at hR
    refine ite_split (fun g => fin_same ?_) (fun g => ?_)
    · rw [(toNat_ten c).1 g] at hR
      simpa using hR
    · rw [toNat_ten] at g
      have e : ((10 : UInt8) == c) = false := beq_false_of_ne (Ne.symm g)
      rw [e, Bool.false_or] at hR
      rw [wrap_next hk (by omega)]
      exact rline_loop s hs (d :: r) (k + 1) h2 hR
theorem rline_spec {s : List UInt8} (hs : s.length ≤ 140737488355328) (hR : R (.pv (.bool (lineB s))) σ) : SCalls (cx w0) selvageref10_line.id [.pv (.str s)] σ R := by
  refine selvageref10_line.calls ?_
  rw [selvageref10_line.b0_eq]
  exact rline_loop s hs s 0 rfl hR
theorem rwhole_spec {s : List UInt8} (hs : s.length ≤ 140737488355328) (hR : R (.pv (.bool (wholeB s))) σ) : SCalls (cx w0) selvageref01_Whole.id [.pv (.str s)] σ R := by
  have fin : ∀ t, t = wholeB s → selvageref01_Whole.n4 (selvageref01_Whole.X w0 σ.length) w0 σ.length R σ t := by
    rintro t rfl
    refine selvageref01_Whole.n4_in ?_
    rw [selvageref01_Whole.b4_eq]
    exact fin_same hR
  refine selvageref01_Whole.calls ?_
  rw [selvageref01_Whole.b0_eq, condB_decide]
  refine ite_split (fun h => ?_) (fun h => fin _ ?_)
  · have hp : 0 < s.length := by omega
    rw [wrap_i64 (by omega) (by omega), show ((s.length : Int) - 1) = ((s.length - 1 : Nat) : Int) by omega]
    have hl : s[s.length - 1]? = some (s.getLast (List.length_pos_iff.1 hp)) := by
      rw [List.getLast_eq_getElem]; exact List.getElem?_eq_getElem _
    refine opt_in (idx_str hl) (isI_in (fin _ ?_))
    unfold wholeB
    rw [List.getLast?_eq_some_getLast (List.length_pos_iff.1 hp)]
    rw [Bool.eq_iff_iff, beq_iff_eq, beq_iff_eq]
    exact toNat_ten _
  · have : s = [] := List.length_eq_zero_iff.1 (by omega)
    subst this; rfl
theorem counts_loop (L : Laid w0.w) (xs : List PV) (hx : xs.length ≤ 140737488355328) : ∀ (r : List Row) (k : Nat) (a b : Int), xs.drop k = r.map rowP → R (.tup [.pv (.int .i64 (cntF isOld r a)), .pv (.int .i64 (cntF isNew r b))]) σ → selvageref10_Counts.n8 (selvageref10_Counts.X w0 σ.length) w0 σ.length R σ (.pv (.sl xs)) a b k
  | [], k, a, b, h, hR => by
    have hk := drop_end h
    refine selvageref10_Counts.n8_in ?_
    rw [selvageref10_Counts.b9_eq]
    repeat ((with_reducible first | apply opt_in | apply wI | apply wT | apply wP | apply wS | apply wB); exact rfl)
    rw [condB_decide, if_neg (by omega)]
    refine selvageref10_Counts.n29_in ?_
    rw [selvageref10_Counts.b29_eq]
    exact fin_same hR
  | c :: r, k, a, b, h, hR => by
    obtain ⟨h1, h2, hk⟩ := drop_facts h
    have idx : aIndexAddr σ tabS ti43.td (.pv (.sl xs)) (k : Int) = some (.ro (rowP c) 0) := idx_ro tab79 h1 rfl
    simp only [cntF] at hR
    refine selvageref10_Counts.n8_in ?_
    rw [selvageref10_Counts.b9_eq]
    repeat ((with_reducible first | apply opt_in | apply wI | apply wT | apply wP | apply wS | apply wB); exact rfl)
    rw [condB_decide, if_pos (by omega)]
    refine opt_in idx ?_
    repeat ((with_reducible first | apply opt_in | apply wI | apply wT | apply wP | apply wS | apply wB); exact rfl)
    refine old_spec L (isB_in ?_)
    have next : ∀ a', a' = (if isOld c.k = true then IntKind.wrap .i64 (a + 1) else a) → selvageref10_Counts.n23 (selvageref10_Counts.X w0 σ.length) w0 σ.length R σ (.pv (.sl xs)) a' b k := by
      rintro a' rfl
      refine selvageref10_Counts.n23_in ?_
      rw [selvageref10_Counts.b23_eq]
      refine opt_in idx ?_
      repeat ((with_reducible first | apply opt_in | apply wI | apply wT | apply wP | apply wS | apply wB); exact rfl)
      refine fresh_spec L (isB_in ?_)
      have next2 : ∀ b', b' = (if isNew c.k = true then IntKind.wrap .i64 (b + 1) else b) → selvageref10_Counts.n28 (selvageref10_Counts.X w0 σ.length) w0 σ.length R σ (.pv (.sl xs)) (if isOld c.k = true then IntKind.wrap .i64 (a + 1) else a) b' k := by
        rintro b' rfl
        refine selvageref10_Counts.n28_in ?_
        rw [selvageref10_Counts.b28_eq, wrap_next hk (by omega)]
        exact counts_loop L xs hx r (k + 1) _ _ h2 hR
      exact condB_split (fun g => next2 _ (by rw [if_pos g])) (fun g => next2 _ (by rw [if_neg (by rw [g]; decide)]))
    exact condB_split (fun g => next _ (by rw [if_pos g])) (fun g => next _ (by rw [if_neg (by rw [g]; decide)]))
theorem counts_spec (L : Laid w0.w) {l : List Row} (hl : l.length ≤ 140737488355328) (hR : R (.tup [.pv (.int .i64 (cntF isOld l 0)), .pv (.int .i64 (cntF isNew l 0))]) σ) : SCalls (cx w0) selvageref10_Counts.id [.pv (rowsP l)] σ R := by
  refine selvageref10_Counts.calls ?_
  rw [selvageref10_Counts.b0_eq]
  exact counts_loop L (l.map rowP) (by simpa using hl) l 0 0 0 rfl hR
abbrev hnkC (h : Hnk) : List AV := [.pv (.int .i64 h.a), .pv (.int .i64 h.n), .pv (.int .i64 h.b), .pv (.int .i64 h.m), .pv (.str h.head), .pv (rowsP h.rows)]
theorem start_spec {a m : Int} (hR : R (.pv (.bool (startB a m))) σ) : SCalls (cx w0) selvageref10_start.id [.pv (.int .i64 a), .pv (.int .i64 m)] σ R := by
  have fin : ∀ t, t = startB a m → selvageref10_start.n12 (selvageref10_start.X w0 σ.length) w0 σ.length R σ t := by
    rintro t rfl
    refine selvageref10_start.n12_in ?_
    rw [selvageref10_start.b12_eq]
    exact fin_same hR
  have mid : ∀ x : Int, x = (if m = 0 then 0 else 1) → selvageref10_start.n10 (selvageref10_start.X w0 σ.length) w0 σ.length R σ a m x := by
    rintro x rfl
    refine selvageref10_start.n10_in ?_
    rw [selvageref10_start.b10_eq]
    refine condB_split (fun g => fin _ ?_) (fun g => fin _ ?_)
    · have g' : decide ((if m = 0 then (0 : Int) else 1) ≤ a) = true := g
      rw [startB, g', Bool.true_and]
    · have g' : decide ((if m = 0 then (0 : Int) else 1) ≤ a) = false := g
      rw [startB, g', Bool.false_and]
  refine selvageref10_start.calls ?_
  rw [selvageref10_start.b0_eq, condB_ibeq]
  exact ite_split (fun g => mid _ (by rw [if_pos g])) (fun g => mid _ (by rw [if_neg g]))
theorem rrows_loop (L : Laid w0.w) (xs : List PV) (hx : xs.length ≤ 140737488355328) : ∀ (r : List Row) (k : Nat) (e o ch : Bool), xs.drop k = r.map rowP → (∀ x ∈ r, x.t.length ≤ 140737488355328) →
    selvageref10_rows.n8 (selvageref10_rows.X w0 0) w0 0 (fun r' _ => r' = .pv (.bool (rowsF r e o ch))) [] (.pv (.sl xs)) e o ch k
  | [], k, e, o, ch, h, _ => by
    have hk := drop_end h
    refine selvageref10_rows.n8_in ?_
    rw [selvageref10_rows.b9_eq]
    repeat ((with_reducible first | apply opt_in | apply wI | apply wT | apply wP | apply wS | apply wB); exact rfl)
    rw [condB_decide, if_neg (by omega)]
    refine selvageref10_rows.n35_in ?_
    rw [selvageref10_rows.b35_eq]
    exact fin_keep (Nat.zero_le _) rfl
  | c :: r, k, e, o, ch, h, ht => by
    obtain ⟨h1, h2, hk⟩ := drop_facts h
    have hc := ht c (by simp)
    have idx : aIndexAddr [] tabS ti43.td (.pv (.sl xs)) (k : Int) = some (.ro (rowP c) 0) := idx_ro tab79 h1 rfl
    have ih := fun e' o' ch' => rrows_loop L xs hx r (k + 1) e' o' ch' h2 (fun x hx => ht x (List.mem_cons_of_mem _ hx))
    have key : ∀ t, t = badR c e o → selvageref10_rows.n22 (selvageref10_rows.X w0 0) w0 0 (fun r' _ => r' = .pv (.bool (rowsF (c :: r) e o ch))) [.cells 79 [.pv (.int .i64 c.k), .pv (.str c.t)]] (.pv (.sl xs)) e o ch k (.ptr 0 0) t := by
      rintro t rfl
      refine selvageref10_rows.n22_in ?_
      rw [selvageref10_rows.b22_eq]
      refine condB_split (fun hb => fin_keep (Nat.zero_le _) ?_) (fun hb => ?_)
      · simp only [rowsF, if_pos hb]
      have hr : rowsF (c :: r) e o ch = rowsF r (e || (!wholeB c.t && isOld c.k)) (o || (!wholeB c.t && isNew c.k)) (ch || !(c.k == 1)) := by
        simp only [rowsF, hb]; rfl
      rw [hr]
      have f34 : ∀ ch', ch' = (ch || !(c.k == 1)) → ∀ o' e', selvageref10_rows.n34 (selvageref10_rows.X w0 0) w0 0 (fun r' _ => r' = .pv (.bool (rowsF r e' o' (ch || !(c.k == 1))))) [.cells 79 [.pv (.int .i64 c.k), .pv (.str c.t)]] (.pv (.sl xs)) e' o' ch' k := by
        rintro ch' rfl o' e'
        refine selvageref10_rows.n34_in ?_
        rw [selvageref10_rows.b34_eq, wrap_next hk (by omega)]
        exact selvageref10_rows.n8_weak (EWeak.drop (τ := []) glob0 (Nat.zero_le _) rfl rfl) (ih _ _ _)
      have f33 : ∀ o', o' = (o || (!wholeB c.t && isNew c.k)) → ∀ e', selvageref10_rows.n33 (selvageref10_rows.X w0 0) w0 0 (fun r' _ => r' = .pv (.bool (rowsF r e' (o || (!wholeB c.t && isNew c.k)) (ch || !(c.k == 1))))) [.cells 79 [.pv (.int .i64 c.k), .pv (.str c.t)]] (.pv (.sl xs)) e' o' ch k (.ptr 0 0) := by
        rintro o' rfl e'
        refine selvageref10_rows.n33_in ?_
        rw [selvageref10_rows.b33_eq]
        refine condB_split (fun g => f34 _ ?_ _ _) (fun g => ?_)
        · rw [g]; rfl
        · repeat ((with_reducible first | apply opt_in | apply wI | apply wT | apply wP | apply wS | apply wB); exact rfl)
          refine f34 _ ?_ _ _
          rw [g]; rfl
      have f31 : ∀ e', e' = (e || (!wholeB c.t && isOld c.k)) → selvageref10_rows.n31 (selvageref10_rows.X w0 0) w0 0 (fun r' _ => r' = .pv (.bool (rowsF r (e || (!wholeB c.t && isOld c.k)) (o || (!wholeB c.t && isNew c.k)) (ch || !(c.k == 1))))) [.cells 79 [.pv (.int .i64 c.k), .pv (.str c.t)]] (.pv (.sl xs)) e' o ch k (.ptr 0 0) (!wholeB c.t) := by
        rintro e' rfl
        refine selvageref10_rows.n31_in ?_
        rw [selvageref10_rows.b31_eq]
        refine condB_split (fun g => f33 _ ?_ _) (fun g => ?_)
        · rw [g]; rfl
        refine condB_split (fun g2 => ?_) (fun g2 => f33 _ ?_ _)
        · repeat ((with_reducible first | apply opt_in | apply wI | apply wT | apply wP | apply wS | apply wB); exact rfl)
          refine fresh_spec L (isB_in (f33 _ ?_ _))
          rw [g, g2]; rfl
        · rw [g, g2]; rfl
      repeat ((with_reducible first | apply opt_in | apply wI | apply wT | apply wP | apply wS | apply wB); exact rfl)
      refine rwhole_spec hc (isB_in ?_)
      refine condB_split (fun g => f31 _ ?_) (fun g => ?_)
      · rw [g]; rfl
      refine condB_split (fun g2 => ?_) (fun g2 => f31 _ ?_)
      · repeat ((with_reducible first | apply opt_in | apply wI | apply wT | apply wP | apply wS | apply wB); exact rfl)
        refine old_spec L (isB_in (f31 _ ?_))
        rw [g, g2]; rfl
      · rw [g, g2]; rfl
    refine selvageref10_rows.n8_in ?_
    rw [selvageref10_rows.b9_eq]
    repeat ((with_reducible first | apply opt_in | apply wI | apply wT | apply wP | apply wS | apply wB); exact rfl)
    rw [condB_decide, if_pos (by omega)]
    refine opt_in idx ?_
    repeat ((with_reducible first | apply opt_in | apply wI | apply wT | apply wP | apply wS | apply wB); exact rfl)
    refine old_spec L (isB_in ?_)
    rw [condB_not]
    refine condB_split (fun g1 => ?_) (fun g1 => ?_)
    · repeat ((with_reducible first | apply opt_in | apply wI | apply wT | apply wP | apply wS | apply wB); exact rfl)
      refine rline_spec hc (isB_in ?_)
      rw [condB_not]
      refine condB_split (fun gl => ?_) (fun gl => key _ (by simp [badR, gl]))
      repeat ((with_reducible first | apply opt_in | apply wI | apply wT | apply wP | apply wS | apply wB); exact rfl)
      refine old_spec L (isB_in ?_)
      rw [g1, condB_true']
      refine condB_split (fun ge => key _ (by simp [badR, g1, ge])) (fun ge => ?_)
      repeat ((with_reducible first | apply opt_in | apply wI | apply wT | apply wP | apply wS | apply wB); exact rfl)
      refine fresh_spec L (isB_in ?_)
      exact condB_split (fun gn => key _ (by simp [badR, g1, ge, gn, gl])) (fun gn => key _ (by simp [badR, g1, ge, gn, gl]))
    · repeat ((with_reducible first | apply opt_in | apply wI | apply wT | apply wP | apply wS | apply wB); exact rfl)
      refine fresh_spec L (isB_in ?_)
      rw [condB_not]
      refine condB_split (fun g2 => ?_) (fun g2 => key _ (by simp [badR, g1, g2]))
      repeat ((with_reducible first | apply opt_in | apply wI | apply wT | apply wP | apply wS | apply wB); exact rfl)
      refine rline_spec hc (isB_in ?_)
      rw [condB_not]
      refine condB_split (fun gl => ?_) (fun gl => key _ (by simp [badR, gl]))
      repeat ((with_reducible first | apply opt_in | apply wI | apply wT | apply wP | apply wS | apply wB); exact rfl)
      refine old_spec L (isB_in ?_)
      rw [g1, condB_false']
      repeat ((with_reducible first | apply opt_in | apply wI | apply wT | apply wP | apply wS | apply wB); exact rfl)
      refine fresh_spec L (isB_in ?_)
      exact condB_split (fun gn => key _ (by simp [badR, g1, gn, gl])) (fun gn => key _ (by simp [badR, g1, gn, gl, g2] at *))
theorem rrows_spec (L : Laid w0.w) {l : List Row} (hl : l.length ≤ 140737488355328) (ht : ∀ x ∈ l, x.t.length ≤ 140737488355328) (hR : R (.pv (.bool (rowsF l false false false))) σ) : SCalls (cx w0) selvageref10_rows.id [.pv (rowsP l)] σ R := by
  refine SCalls.alone L rfl (fun w1 L1 => ?_) rfl hR
  refine selvageref10_rows.calls ?_
  rw [selvageref10_rows.b0_eq]
  exact rrows_loop L1 (l.map rowP) (by simpa using hl) l 0 _ _ _ rfl ht
def v01 (b : Bool) : AV := .pv (.int .i64 (if b = true then 0 else 100))
theorem rhead_loop (h : Hnk) (hx : h.head.length ≤ 140737488355328) : ∀ (r : List UInt8) (k : Nat) (ok : Bool), h.head.drop k = r →
    selvageref10_Valid.n10 (selvageref10_Valid.X w0 0) w0 0 (fun r' _ => r' = v01 (ok && !r.contains 10)) [.cells 46 (hnkC h)] (.ptr 0 0) ok k
  | [], k, ok, hd => by
    have hk := drop_end hd
    refine selvageref10_Valid.n10_in ?_
    rw [selvageref10_Valid.b11_eq]
    repeat ((with_reducible first | apply opt_in | apply wI | apply wT | apply wP | apply wS | apply wB); exact rfl)
    rw [condB_decide, if_neg (by omega)]
    refine selvageref10_Valid.n21_in ?_
    rw [selvageref10_Valid.b21_eq, condB_not]
    refine condB_split (fun g => fin_keep (Nat.zero_le _) ?_) (fun g => fin_keep (Nat.zero_le _) ?_)
    · rw [g]; rfl
    · rw [g]; rfl
  | c :: r, k, ok, hd => by
    obtain ⟨h1, h2, hk⟩ := drop_facts hd
    have next : ∀ ok', ok' = (ok && !(10 == c)) → selvageref10_Valid.n20 (selvageref10_Valid.X w0 0) w0 0 (fun r' _ => r' = v01 (ok && !(c :: r).contains 10)) [.cells 46 (hnkC h)] (.ptr 0 0) ok' k := by
      rintro ok' rfl
      refine selvageref10_Valid.n20_in ?_
      rw [selvageref10_Valid.b20_eq, wrap_next hk (by omega)]
      have e : (ok && !(c :: r).contains 10) = ((ok && !(10 == c)) && !r.contains 10) := by
        rw [List.contains_cons, Bool.not_or, Bool.and_assoc]
      rw [e]
      exact rhead_loop h hx r (k + 1) _ h2
    refine selvageref10_Valid.n10_in ?_
    rw [selvageref10_Valid.b11_eq]
    repeat ((with_reducible first | apply opt_in | apply wI | apply wT | apply wP | apply wS | apply wB); exact rfl)
    rw [condB_decide, if_pos (by omega)]
    refine condB_split (fun g => ?_) (fun g => next _ ?_)
    · repeat ((with_reducible first | apply opt_in | apply wI | apply wT | apply wP | apply wS | apply wB); exact rfl)
      refine opt_in (idx_str h1) (isI_in (next _ ?_))
      rw [g, Bool.true_and]
      show (!((c.toNat : Int) == 10)) = _
      congr 1
      rw [Bool.eq_iff_iff, beq_iff_eq, beq_iff_eq, toNat_ten]
      exact eq_comm
    · rw [g]; rfl
theorem rValid_spec (L : Laid w0.w) {h : Hnk} (hl : h.rows.length ≤ 140737488355328) (ht : ∀ x ∈ h.rows, x.t.length ≤ 140737488355328) (hh : h.head.length ≤ 140737488355328) (hR : R (v01 (validF h)) σ) : SCalls (cx w0) selvageref10_Valid.id [.pv (hnkP h)] σ R := by
  refine SCalls.alone L rfl (fun w1 L1 => ?_) rfl hR
  have key : ∀ ok, ok = (rowsF h.rows false false false && h.n == cntF isOld h.rows 0 && h.m == cntF isNew h.rows 0 && startB h.a (cntF isOld h.rows 0) && startB h.b (cntF isNew h.rows 0) && decide (h.head.length ≤ 4096)) →
      selvageref10_Valid.n6 (selvageref10_Valid.X w1 0) w1 0 (fun r' _ => r' = v01 (validF h)) [.cells 46 (hnkC h)] (.ptr 0 0) ok := by
    rintro ok rfl
    refine selvageref10_Valid.n6_in ?_
    rw [selvageref10_Valid.b6_eq]
    exact rhead_loop h hh h.head 0 _ rfl
  refine selvageref10_Valid.calls ?_
  rw [selvageref10_Valid.b0_eq]
  refine ⟨rfl, ?_⟩
  repeat ((with_reducible first | apply opt_in | apply wI | apply wT | apply wP | apply wS | apply wB); exact rfl)
  refine counts_spec L1 hl ?_
  repeat ((with_reducible first | apply opt_in | apply wI | apply wT | apply wP | apply wS | apply wB); exact rfl)
  refine rrows_spec L1 hl ht (isB_in ?_)
  refine condB_split (fun g1 => ?_) (fun g1 => key _ (by simp [g1]))
  repeat ((with_reducible first | apply opt_in | apply wI | apply wT | apply wP | apply wS | apply wB); exact rfl)
  refine condB_split (fun g2 => ?_) (fun g2 => key _ (by simp [g1, g2]))
  repeat ((with_reducible first | apply opt_in | apply wI | apply wT | apply wP | apply wS | apply wB); exact rfl)
  refine condB_split (fun g3 => ?_) (fun g3 => key _ (by simp [g1, g2, g3]))
  repeat ((with_reducible first | apply opt_in | apply wI | apply wT | apply wP | apply wS | apply wB); exact rfl)
  refine start_spec (isB_in ?_)
  refine condB_split (fun g4 => ?_) (fun g4 => key _ (by simp [g1, g2, g3, g4]))
  repeat ((with_reducible first | apply opt_in | apply wI | apply wT | apply wP | apply wS | apply wB); exact rfl)
  refine start_spec (isB_in ?_)
  refine condB_split (fun g5 => ?_) (fun g5 => key _ (by simp [g1, g2, g3, g4, g5]))
  repeat ((with_reducible first | apply opt_in | apply wI | apply wT | apply wP | apply wS | apply wB); exact rfl)
  refine key _ ?_
  rw [g1, g2, g3, g4, g5, Bool.true_and, Bool.true_and, Bool.true_and, Bool.true_and, Bool.true_and, Bool.eq_iff_iff, decide_eq_true_eq, decide_eq_true_eq]
  omega
end
end
section
open Go Go.RowKit Go.Proofs
abbrev sdC (s : Sd) : List AV := [.pv (.int .i64 s.n), .pv (.bool s.e)]
section
variable {w0 : Base} {σ : Store} {R : AV → Store → Prop}
theorem bare_spec {s : List UInt8} (hs : s.length ≤ 140737488355328) (hR : R (.pv (.str (bareB s))) σ) : SCalls (cx w0) lines_Bare.id [.pv (.str s)] σ R := by
  refine lines_Bare.calls ?_
  rw [lines_Bare.b0_eq]
  refine TrimSuffix_spec (by omega) (isS_in ?_)
  rw [trim_bare]
  exact fin_same hR
theorem whole_spec {s : List UInt8} (hs : s.length ≤ 140737488355328) (hR : R (.pv (.bool (wholeB s))) σ) : SCalls (cx w0) lines_Whole.id [.pv (.str s)] σ R := by
  refine lines_Whole.calls ?_
  rw [lines_Whole.b0_eq]
  refine HasSuffix_spec (by omega) (isB_in ?_)
  rw [suffix_whole]
  exact fin_same hR
theorem line_spec {s : List UInt8} (hs : s.length ≤ 140737488355328) (hR : R (.pv (.bool (lineB s))) σ) : SCalls (cx w0) hunks_line.id [.pv (.str s)] σ R := by
  have fin : ∀ t, t = lineB s → hunks_line.n4 (hunks_line.X w0 σ.length) w0 σ.length R σ t := by
    rintro t rfl
    refine hunks_line.n4_in ?_
    rw [hunks_line.b4_eq]
    exact fin_same hR
  refine hunks_line.calls ?_
  rw [hunks_line.b0_eq]
  refine condB_split (fun g => ?_) (fun g => fin _ ?_)
  · refine bare_spec hs (isS_in (Contains1_spec (isB_in (fin _ ?_))))
    rw [← line_same, g, Bool.true_and, Lib.contains_iff_indexByte]
  · rw [lineB, g]; rfl
theorem place_spec {a m : Int} (hR : R (.pv (.bool (placeB a m))) σ) : SCalls (cx w0) hunks_place.id [.pv (.int .i64 a), .pv (.int .i64 m)] σ R := by
  have fin : ∀ t, t = placeB a m → hunks_place.n4 (hunks_place.X w0 σ.length) w0 σ.length R σ t := by
    rintro t rfl
    refine hunks_place.n4_in ?_
    rw [hunks_place.b4_eq]
    exact fin_same hR
  refine hunks_place.calls ?_
  rw [hunks_place.b0_eq]
  refine condB_split (fun g1 => ?_) (fun g1 => fin _ ?_)
  · have g1' : decide (0 ≤ m) = true := g1
    refine condB_split (fun g2 => ?_) (fun g2 => fin _ ?_)
    · have g2' : decide (0 ≤ a) = true := g2
      refine condB_split (fun g3 => ?_) (fun g3 => ?_)
      · have g3' : decide (0 < a) = true := g3
        refine condB_split (fun g4 => fin _ ?_) (fun g4 => fin _ ?_)
        · rw [placeB, g1', g2', g3', g4]; rfl
        · rw [placeB, g1', g2', g3', g4]; rfl
      · have g3' : decide (0 < a) = false := g3
        refine condB_split (fun g5 => ?_) (fun g5 => fin _ ?_)
        · refine condB_split (fun g4 => fin _ ?_) (fun g4 => fin _ ?_)
          · rw [placeB, g1', g2', g3', g4, g5]; rfl
          · rw [placeB, g1', g2', g3', g4, g5]; rfl
        · rw [placeB, g1', g2', g3', g5]; rfl
    · have g2' : decide (0 ≤ a) = false := g2
      rw [placeB, g1', g2']; rfl
  · have g1' : decide (0 ≤ m) = false := g1
    rw [placeB, g1']; rfl
theorem store_cells {id off : Nat} {ty : TypeId} {cs : List AV} {ti : TI} {v : AV} (ho : σ[id]? = some (.cells ty cs)) (h1 : v.cells.length = ti.size) (h2 : v.cells.all AV.one = true) (h3 : off + v.cells.length ≤ cs.length) : aStore σ ti (.ptr id off) v = some (σ.set id (.cells ty (splice cs off v.cells))) := by
  unfold aStore
  simp only
  rw [if_pos ⟨h1, h2⟩, ho]
  simp only
  rw [if_pos h3]
theorem add_spec {id : Nat} {s : Sd} {t : List UInt8} (ho : σ[id]? = some (.cells 198 (sdC s))) (ht : t.length ≤ 140737488355328) (hR : R (.pv (.bool (!s.e))) (σ.set id (.cells 198 (sdC (addF s t))))) : SCalls (cx w0) hunks_side_add.id [.ptr id 0, .pv (.str t)] σ R := by
  have hid := (List.getElem?_eq_some_iff.1 ho).1
  refine hunks_side_add.calls ?_
  rw [hunks_side_add.b0_eq]
  refine opt_in rfl (opt_in (v := .ptr id (0 + 1)) rfl ?_)
  refine opt_in (v := .pv (.bool s.e)) (by rw [aLoad_cells ho]; rfl) (isB_in ?_)
  refine condB_split (fun g => fin_same ?_) (fun g => ?_)
  · rw [g, addF, if_pos g, set_self ho] at hR
    exact hR
  · refine opt_in rfl (opt_in (v := .ptr id (0 + 0)) rfl ?_)
    refine opt_in (v := .pv (.int .i64 s.n)) (by rw [aLoad_cells ho]; rfl) (isI_in ?_)
    refine opt_in rfl (opt_in (v := .ptr id (0 + 0)) rfl ?_)
    refine opt_in (store_cells ho rfl rfl (by simp [AV.cells, PV.cells])) ?_
    refine whole_spec ht (isB_in ?_)
    refine opt_in rfl (opt_in (v := .ptr id (0 + 1)) rfl ?_)
    refine opt_in (store_cells (List.getElem?_set_self hid) rfl rfl (by simp [AV.cells, PV.cells, splice])) ?_
    refine fin_keep (by simp) ?_
    rw [List.set_set]
    rw [g, addF, if_neg (by rw [g]; decide)] at hR
    exact hR
theorem sides_loop (L : Laid w0.w) (h : Hnk) (xs : List PV) (hx : xs.length ≤ 140737488355328) : ∀ (r : List Row) (k : Nat) (p q : Sd) (ch : Bool), xs.drop k = r.map rowP → (∀ x ∈ r, x.t.length ≤ 140737488355328) →
    hunks_sides.n8 (hunks_sides.X w0 0) w0 0 (fun r' _ => r' = outS (sidesF r p q ch)) [.cells 46 (hnkC h), .cells 198 (sdC p), .cells 198 (sdC q)] (.ptr 1 0) (.ptr 2 0) ch (.pv (.sl xs)) xs.length k
  | [], k, p, q, ch, hd, _ => by
    have hk := drop_end hd
    refine hunks_sides.n8_in ?_
    rw [hunks_sides.b9_eq, condB_decide, if_neg (by omega)]
    refine hunks_sides.n37_in ?_
    rw [hunks_sides.b37_eq]
    repeat ((with_reducible first | apply opt_in | apply wI | apply wT | apply wP | apply wS | apply wB); exact rfl)
    exact fin_keep (Nat.zero_le _) rfl
  | c :: r, k, p, q, ch, hd, ht => by
    obtain ⟨h1, h2, hk⟩ := drop_facts hd
    have hc := ht c (by simp)
    have ih := fun p' q' ch' => sides_loop L h xs hx r (k + 1) p' q' ch' h2 (fun x hx => ht x (List.mem_cons_of_mem _ hx))
    have key31 : ∀ (p' q' : Sd) (t : Bool), sidesF (c :: r) p q ch = (if t = true then (p', q', false) else sidesF r p' q' (ch || !(c.k == 1))) →
        hunks_sides.n31 (hunks_sides.X w0 0) w0 0 (fun r' _ => r' = outS (sidesF (c :: r) p q ch)) [.cells 46 (hnkC h), .cells 198 (sdC p'), .cells 198 (sdC q'), .cells 79 [.pv (.int .i64 c.k), .pv (.str c.t)]] (.ptr 1 0) (.ptr 2 0) (ch || !(c.k == 1)) (.pv (.sl xs)) xs.length k t := by
      intro p' q' t he
      rw [he]
      refine hunks_sides.n31_in ?_
      rw [hunks_sides.b31_eq]
      refine condB_split (fun g => ?_) (fun g => ?_)
      · rw [if_pos g]
        repeat ((with_reducible first | apply opt_in | apply wI | apply wT | apply wP | apply wS | apply wB); exact rfl)
        exact fin_keep (Nat.zero_le _) rfl
      · rw [if_neg (by rw [g]; decide), wrap_next hk (by omega)]
        exact hunks_sides.n8_weak (EWeak.drop (τ := [.cells 46 (hnkC h), .cells 198 (sdC p'), .cells 198 (sdC q')]) glob0 (Nat.zero_le _) rfl rfl) (ih _ _ _)
    have key29 : kindB c.k = true → lineB c.t = true → ∀ ch', ch' = (ch || !(c.k == 1)) → hunks_sides.n29 (hunks_sides.X w0 0) w0 0 (fun r' _ => r' = outS (sidesF (c :: r) p q ch)) [.cells 46 (hnkC h), .cells 198 (sdC p), .cells 198 (sdC q), .cells 79 [.pv (.int .i64 c.k), .pv (.str c.t)]] (.ptr 1 0) (.ptr 2 0) ch' (.ptr 3 0) (.pv (.sl xs)) xs.length k := by
      rintro gk gl ch' rfl
      have hs : sidesF (c :: r) p q ch = if c.k ≠ 3 ∧ p.e = true then (p, q, false) else if c.k ≠ 2 ∧ q.e = true then (if c.k ≠ 3 then addF p c.t else p, q, false) else
          sidesF r (if c.k ≠ 3 then addF p c.t else p) (if c.k ≠ 2 then addF q c.t else q) (ch || !(c.k == 1)) := by
        rw [sidesF, if_pos ⟨gk, gl⟩]
      refine hunks_sides.n29_in ?_
      rw [hunks_sides.b29_eq]
      repeat ((with_reducible first | apply opt_in | apply wI | apply wT | apply wP | apply wS | apply wB); exact rfl)
      rw [condB_ibne]
      refine ite_split (fun g3 => ?_) (fun g3 => ?_)
      · -- a new line alone
        repeat ((with_reducible first | apply opt_in | apply wI | apply wT | apply wP | apply wS | apply wB); exact rfl)
        rw [condB_ibne, if_neg (by omega)]
        repeat ((with_reducible first | apply opt_in | apply wI | apply wT | apply wP | apply wS | apply wB); exact rfl)
        refine add_spec (id := 2) (s := q) rfl hc (isB_in ?_)
        rw [Bool.not_not]
        refine key31 p (addF q c.t) q.e ?_
        rw [hs]
        cases hq : q.e <;> simp [g3, hq, addF]
      · repeat ((with_reducible first | apply opt_in | apply wI | apply wT | apply wP | apply wS | apply wB); exact rfl)
        refine add_spec (id := 1) (s := p) rfl hc (isB_in ?_)
        rw [Bool.not_not]
        refine condB_split (fun ge => ?_) (fun ge => ?_)
        · refine key31 (addF p c.t) q true ?_
          rw [hs]
          simp [g3, ge, addF]
        · repeat ((with_reducible first | apply opt_in | apply wI | apply wT | apply wP | apply wS | apply wB); exact rfl)
          rw [condB_ibne]
          refine ite_split (fun g2 => ?_) (fun g2 => ?_)
          · refine key31 (addF p c.t) q false ?_
            rw [hs]
            simp [ge, g2, addF]
          · repeat ((with_reducible first | apply opt_in | apply wI | apply wT | apply wP | apply wS | apply wB); exact rfl)
            refine add_spec (id := 2) (s := q) rfl hc (isB_in ?_)
            rw [Bool.not_not]
            refine key31 (addF p c.t) (addF q c.t) q.e ?_
            rw [hs]
            cases hq : q.e <;> simp [g3, g2, ge, hq, addF]
    have key22 : ∀ t, t = !(kindB c.k && lineB c.t) → hunks_sides.n22 (hunks_sides.X w0 0) w0 0 (fun r' _ => r' = outS (sidesF (c :: r) p q ch)) [.cells 46 (hnkC h), .cells 198 (sdC p), .cells 198 (sdC q), .cells 79 [.pv (.int .i64 c.k), .pv (.str c.t)]] (.ptr 1 0) (.ptr 2 0) ch (.ptr 3 0) (.pv (.sl xs)) xs.length k t := by
      rintro t rfl
      refine hunks_sides.n22_in ?_
      rw [hunks_sides.b22_eq, condB_not]
      refine condB_split (fun g => ?_) (fun g => ?_)
      · rw [Bool.and_eq_true] at g
        refine condB_split (fun g2 => key29 g.1 g.2 _ ?_) (fun g2 => ?_)
        · rw [g2]; rfl
        · repeat ((with_reducible first | apply opt_in | apply wI | apply wT | apply wP | apply wS | apply wB); exact rfl)
          refine key29 g.1 g.2 _ ?_
          rw [g2]; rfl
      · repeat ((with_reducible first | apply opt_in | apply wI | apply wT | apply wP | apply wS | apply wB); exact rfl)
        refine fin_keep (Nat.zero_le _) ?_
        rw [sidesF, if_neg (fun h => by rw [h.1, h.2] at g; cases g)]
        rfl
    refine hunks_sides.n8_in ?_
    rw [hunks_sides.b9_eq, condB_decide, if_pos (by omega)]
    refine opt_in (idx_ro tab79 h1 rfl) ?_
    repeat ((with_reducible first | apply opt_in | apply wI | apply wT | apply wP | apply wS | apply wB); exact rfl)
    rw [condB_decide]
    refine ite_split (fun g => key22 _ ?_) (fun g => ?_)
    · have : kindB c.k = false := by simp [kindB]; omega
      rw [this]; rfl
    repeat ((with_reducible first | apply opt_in | apply wI | apply wT | apply wP | apply wS | apply wB); exact rfl)
    rw [condB_decide]
    refine ite_split (fun g' => key22 _ ?_) (fun g' => ?_)
    · have : kindB c.k = false := by simp [kindB]; omega
      rw [this]; rfl
    repeat ((with_reducible first | apply opt_in | apply wI | apply wT | apply wP | apply wS | apply wB); exact rfl)
    refine line_spec hc (isB_in (key22 _ ?_))
    have : kindB c.k = true := by simp [kindB]; omega
    rw [this, Bool.true_and]
theorem sides_spec (L : Laid w0.w) {h : Hnk} (hl : h.rows.length ≤ 140737488355328) (ht : ∀ x ∈ h.rows, x.t.length ≤ 140737488355328) (hR : R (outS (sidesF h.rows ⟨0, false⟩ ⟨0, false⟩ false)) σ) : SCalls (cx w0) hunks_sides.id [.pv (hnkP h)] σ R := by
  refine SCalls.alone L rfl (fun w1 L1 => ?_) rfl hR
  refine hunks_sides.calls ?_
  rw [hunks_sides.b0_eq]
  refine ⟨rfl, ?_⟩
  repeat ((with_reducible first | apply opt_in | apply wI | apply wT | apply wP | apply wS | apply wB); exact rfl)
  exact sides_loop L1 h (h.rows.map rowP) (by simpa using hl) h.rows 0 ⟨0, false⟩ ⟨0, false⟩ false rfl ht
def vErr (b : Bool) : AV := if b = true then .pv (.raw .nilIface) else .pv (.iface 61 (.int .i64 100))
theorem Valid_spec (L : Laid w0.w) {h : Hnk} (hl : h.rows.length ≤ 140737488355328) (ht : ∀ x ∈ h.rows, x.t.length ≤ 140737488355328) (hh : h.head.length ≤ 140737488355328) (ha : -9223372036854775808 ≤ h.a ∧ h.a ≤ 9223372036854775807) (hb : -9223372036854775808 ≤ h.b ∧ h.b ≤ 9223372036854775807) (hR : R (vErr (validF h)) σ) : SCalls (cx w0) hunks_Valid.id [.pv (hnkP h)] σ R := by
  refine SCalls.alone L rfl (fun w1 L1 => ?_) (by unfold vErr; split <;> rfl) hR
  obtain ⟨s1, s2⟩ := sides_same h.rows ⟨0, false⟩ ⟨0, false⟩ false
  have c1 := cntF_le isOld h.rows 0 (by omega) (by omega)
  have c2 := cntF_le isNew h.rows 0 (by omega) (by omega)
  have key : ∀ S t, t = !validF h → hunks_Valid.n7 (hunks_Valid.X w1 0) w1 0 (fun r' _ => r' = vErr (validF h)) S t := by
    rintro S t rfl
    refine hunks_Valid.n7_in ?_
    rw [hunks_Valid.b7_eq, condB_not]
    refine condB_split (fun g => fin_keep (Nat.zero_le _) ?_) (fun g => opt_in rfl (fin_keep (Nat.zero_le _) ?_))
    · rw [g]; rfl
    · rw [g]; rfl
  refine hunks_Valid.calls ?_
  rw [hunks_Valid.b0_eq]
  refine ⟨rfl, ?_⟩
  repeat ((with_reducible first | apply opt_in | apply wI | apply wT | apply wP | apply wS | apply wB); exact rfl)
  refine sides_spec L1 hl ht ?_
  repeat ((with_reducible first | apply opt_in | apply wI | apply wT | apply wP | apply wS | apply wB); exact rfl)
  rw [condB_not]
  refine condB_split (fun g1 => ?_) (fun g1 => key _ _ ?_)
  · have g1' : rowsF h.rows false false false = true := by rw [← s1]; exact g1
    obtain ⟨e1, e2⟩ := s2 g1'
    repeat ((with_reducible first | apply opt_in | apply wI | apply wT | apply wP | apply wS | apply wB); exact rfl)
    rw [condB_ibne]
    refine ite_split (fun g2 => ?_) (fun g2 => key _ _ ?_)
    · repeat ((with_reducible first | apply opt_in | apply wI | apply wT | apply wP | apply wS | apply wB); exact rfl)
      rw [condB_ibne]
      refine ite_split (fun g3 => ?_) (fun g3 => key _ _ ?_)
      · have n1 : h.n = cntF isOld h.rows 0 := by rw [← g2]; exact e1
        have n2 : h.m = cntF isNew h.rows 0 := by rw [← g3]; exact e2
        repeat ((with_reducible first | apply opt_in | apply wI | apply wT | apply wP | apply wS | apply wB); exact rfl)
        refine place_spec (isB_in ?_)
        rw [condB_not, n1, place_start c1.1 (by omega) ha.1 ha.2]
        refine condB_split (fun g4 => ?_) (fun g4 => key _ _ ?_)
        · repeat ((with_reducible first | apply opt_in | apply wI | apply wT | apply wP | apply wS | apply wB); exact rfl)
          refine place_spec (isB_in ?_)
          rw [condB_not, n2, place_start c2.1 (by omega) hb.1 hb.2]
          refine condB_split (fun g5 => ?_) (fun g5 => key _ _ ?_)
          · repeat ((with_reducible first | apply opt_in | apply wI | apply wT | apply wP | apply wS | apply wB); exact rfl)
            rw [condB_decide]
            refine ite_split (fun g6 => key _ _ ?_) (fun g6 => ?_)
            · have : decide (h.head.length ≤ 4096) = false := by simp; omega
              simp [validF, this]
            · repeat ((with_reducible first | apply opt_in | apply wI | apply wT | apply wP | apply wS | apply wB); exact rfl)
              refine Contains1_spec (isB_in (key _ _ ?_))
              have : decide (h.head.length ≤ 4096) = true := by simp; omega
              simp [validF, g1', ← n1, ← n2, this]
              rw [← n1] at g4
              rw [← n2] at g5
              simp [g4, g5]
          · simp [validF, g5]
        · simp [validF, g4]
      · have : (h.m == cntF isNew h.rows 0) = false := beq_false_of_ne fun e => g3 (by rw [e]; exact e2)
        simp [validF, this]
    · have : (h.n == cntF isOld h.rows 0) = false := beq_false_of_ne fun e => g2 (by rw [e]; exact e1)
      simp [validF, this]
  · have : rowsF h.rows false false false = false := by rw [← s1]; exact g1
    simp [validF, this]
end
end
end Go.Sv
