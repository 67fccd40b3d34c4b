/- Hunks and their rows, as plain data: what the code asks of them, on both sides. The document's answer for hunks (selvageref10.Valid and what it calls): what it answers. The program's hunks.Valid and what it calls: what it answers. Package unified, printing: names, ranges, order, the text of a hunk: what the program and the document's answer compute. -/
import Derived.Test.YtebgkjjbbnbnlaaGreatDoorSvY
import Derived.Lib.Strings
import Derived.Lib.IndexAny
import Derived.Test.YtebgkjjbbnbnlaaGreatDoorSvT
import Derived.KernelRfl
import Derived.Test.YtebgkjjbbnbnlaaGreatDoorStI
import Derived.Test.YtebgkjjbbnbnlaaGreatDoorUnB
set_option linter.unusedVariables false
set_option linter.unusedSimpArgs false
set_option maxRecDepth 100000
section
namespace Go.Sv
section
open Go Go.RowKit
structure Row where
  k : Int
  t : List UInt8
abbrev rowP (r : Row) : PV := .agg [.int .i64 r.k, .str r.t]
structure Hnk where
  a : Int
  n : Int
  b : Int
  m : Int
  head : List UInt8
  rows : List Row
abbrev rowsP (l : List Row) : PV := .sl (l.map rowP)
abbrev hnkP (h : Hnk) : PV := .agg [.int .i64 h.a, .int .i64 h.n, .int .i64 h.b, .int .i64 h.m, .str h.head, rowsP h.rows]
abbrev hnksA (l : List Hnk) : AV := .pv (.sl (l.map hnkP))
def K4 (s : List UInt8) : Bool := match s.getLast? with
  | some c => c == 10
  | none => false
def lineB (s : List UInt8) : Bool := !(s == []) && !(s.dropLast.contains 10)
def bareB (s : List UInt8) : List UInt8 := if K4 s = true then s.dropLast else s
theorem suffix_whole (s : List UInt8) : Lib.hasSuffix s [10] = K4 s := by
  rcases List.eq_nil_or_concat s with rfl | ⟨p, c, rfl⟩
  · rfl
  · simp only [Lib.hasSuffix, List.concat_eq_append, K4, List.getLast?_append, List.getLast?_singleton, Option.some_or]
    rw [Bool.eq_iff_iff, List.isSuffixOf_iff_suffix, beq_iff_eq]
    constructor
    · rintro ⟨t, h⟩
      have := List.append_inj' h rfl
      exact (List.cons.inj this.2).1.symm
    · rintro rfl; exact ⟨p, rfl⟩
theorem trim_bare (s : List UInt8) : Lib.trimSuffix s [10] = bareB s := by
  unfold Lib.trimSuffix bareB
  rw [suffix_whole]
  split
  · rw [List.dropLast_eq_take]; rfl
  · rfl
theorem line_same (s : List UInt8) : (!(s == []) && !(decide (0 ≤ Lib.indexByte (bareB s) 10))) = lineB s := by
  rw [← Lib.contains_iff_indexByte]
  unfold lineB bareB
  rcases List.eq_nil_or_concat s with rfl | ⟨p, c, rfl⟩
  · rfl
  · rw [List.concat_eq_append]
    have hw : K4 (p ++ [c]) = (c == 10) := by simp [K4]
    rw [hw]
    by_cases h : c = 10
    · subst h; simp
    · rw [if_neg (by simpa using h)]
      simp [List.dropLast_concat, Ne.symm h]
def isOld (k : Int) : Bool := k == 1 || k == 2
def isNew (k : Int) : Bool := k == 1 || k == 3
def badR (r : Row) (e o : Bool) : Bool := (!isOld r.k && !isNew r.k) || !lineB r.t || (isOld r.k && e) || (isNew r.k && o)
def rowsF : List Row → Bool → Bool → Bool → Bool
  | [], _, _, c => c
  | r :: l, e, o, c => if badR r e o = true then false else rowsF l (e || (!K4 r.t && isOld r.k)) (o || (!K4 r.t && isNew r.k)) (c || !(r.k == 1))
def cntF (f : Int → Bool) : List Row → Int → Int
  | [], n => n
  | r :: l, n => cntF f l (if f r.k = true then IntKind.wrap .i64 (n + 1) else n)
structure Sd where
  n : Int
  e : Bool
abbrev sdA (s : Sd) : AV := .pv (.agg [.int .i64 s.n, .bool s.e])
def addF (s : Sd) (t : List UInt8) : Sd := if s.e = true then s else ⟨IntKind.wrap .i64 (s.n + 1), !K4 t⟩
def kindB (k : Int) : Bool := decide (1 ≤ k) && decide (k ≤ 3)
def U1 : List Row → Sd → Sd → Bool → Sd × Sd × Bool
  | [], p, q, c => (p, q, c)
  | r :: l, p, q, c =>
    if kindB r.k = true ∧ lineB r.t = true then
      if r.k ≠ 3 ∧ p.e = true then (p, q, false) else
      if r.k ≠ 2 ∧ q.e = true then (if r.k ≠ 3 then addF p r.t else p, q, false) else
      U1 l (if r.k ≠ 3 then addF p r.t else p) (if r.k ≠ 2 then addF q r.t else q) (c || !(r.k == 1))
    else (p, q, false)
def outS (x : Sd × Sd × Bool) : AV := .tup [sdA x.1, sdA x.2.1, .pv (.bool x.2.2)]
theorem kind_cases {k : Int} (h : kindB k = true) : k = 1 ∨ k = 2 ∨ k = 3 := by
  simp [kindB] at h; omega
theorem sides_same : ∀ (l : List Row) (p q : Sd) (c : Bool), (U1 l p q c).2.2 = rowsF l p.e q.e c ∧ (rowsF l p.e q.e c = true → (U1 l p q c).1.n = cntF isOld l p.n ∧ (U1 l p q c).2.1.n = cntF isNew l q.n)
  | [], p, q, c => ⟨rfl, fun _ => ⟨rfl, rfl⟩⟩
  | r :: l, p, q, c => by
    unfold U1 rowsF cntF
    by_cases h1 : kindB r.k = true ∧ lineB r.t = true
    · rw [if_pos h1]
      obtain ⟨hk, hl⟩ := h1
      have ih := sides_same l (if r.k ≠ 3 then addF p r.t else p) (if r.k ≠ 2 then addF q r.t else q) (c || !(r.k == 1))
      rcases kind_cases hk with e | e | e <;> cases hp : p.e <;> cases hq : q.e <;> simp [e, badR, isOld, isNew, hl, hp, hq, addF] at ih ⊢
      all_goals exact ih
    · rw [if_neg h1]
      have : badR r p.e q.e = true := by
        unfold badR
        by_cases hl : lineB r.t = true
        · have hk : kindB r.k = false := by
            cases h : kindB r.k with
            | false => rfl
            | true => exact absurd ⟨h, hl⟩ h1
          have h2 : isOld r.k = false := by
            simp [kindB] at hk; simp [isOld]; omega
          have h3 : isNew r.k = false := by
            simp [kindB] at hk; simp [isNew]; omega
          simp [h2, h3]
        · simp [hl]
      rw [if_pos this]
      exact ⟨rfl, fun h => by cases h⟩
theorem cntF_le (f : Int → Bool) : ∀ (l : List Row) (n : Int), 0 ≤ n → n + l.length ≤ 9223372036854775807 → n ≤ cntF f l n ∧ cntF f l n ≤ n + l.length
  | [], n, _, _ => by simp [cntF]
  | r :: l, n, h0, h1 => by
    unfold cntF
    simp only [List.length_cons] at h1 ⊢
    split
    · rw [G3 (by omega) (by omega)]
      have := cntF_le f l (n + 1) (by omega) (by omega)
      omega
    · have := cntF_le f l n h0 (by omega)
      omega
def placeB (a n : Int) : Bool := decide (0 ≤ n) && decide (0 ≤ a) && (decide (0 < a) || n == 0) && decide (a ≤ 2147483647) && decide (n ≤ IntKind.wrap .i64 (2147483647 - a))
def startB (a n : Int) : Bool := decide ((if n = 0 then 0 else 1) ≤ a) && decide (a ≤ IntKind.wrap .i64 (2147483647 - n))
theorem place_start {a n : Int} (h0 : 0 ≤ n) (h1 : n ≤ 9223372036854775807) (a0 : -9223372036854775808 ≤ a) (a1 : a ≤ 9223372036854775807) : placeB a n = startB a n := by
  unfold placeB startB
  rw [G3 (n := 2147483647 - n) (by omega) (by omega)]
  by_cases ha : 0 ≤ a
  · rw [G3 (n := 2147483647 - a) (by omega) (by omega)]
    rw [Bool.eq_iff_iff]
    simp only [Bool.and_eq_true, Bool.or_eq_true, decide_eq_true_eq, beq_iff_eq]
    split <;> omega
  · have e1 : decide (0 ≤ a) = false := by simpa using ha
    rw [e1]
    rw [Bool.eq_iff_iff]
    simp only [Bool.and_eq_true, Bool.or_eq_true, decide_eq_true_eq, beq_iff_eq, Bool.and_false, Bool.false_and]
    split <;> simp <;> omega
def H0 (h : Hnk) : Bool := rowsF h.rows false false false && h.n == cntF isOld h.rows 0 && h.m == cntF isNew h.rows 0 && startB h.a (cntF isOld h.rows 0) && startB h.b (cntF isNew h.rows 0) && decide (h.head.length ≤ 4096) && !h.head.contains 10
end
section
open Go Go.RowKit Go.Proofs
section
variable {w0 : Base} {σ : Store} {R : AV → Store → Prop}
abbrev hnkC (h : Hnk) : List AV := [.pv (.int .i64 h.a), .pv (.int .i64 h.n), .pv (.int .i64 h.b), .pv (.int .i64 h.m), .pv (.str h.head), .pv (rowsP h.rows)]
end
end
section
open Go Go.RowKit Go.Proofs
abbrev sdC (s : Sd) : List AV := [.pv (.int .i64 s.n), .pv (.bool s.e)]
section
variable {w0 : Base} {σ : Store} {R : AV → Store → Prop}
theorem bare_spec {s : List UInt8} (hs : s.length ≤ 140737488355328) (hR : R (.pv (.str (bareB s))) σ) : A1 (cx w0) N9.id [.pv (.str s)] σ R := by
  refine N9.calls ?_
  rw [N9.b0_eq]
  refine TrimSuffix_spec (by omega) (I0 ?_)
  rw [trim_bare]
  exact O0 hR
theorem whole_spec {s : List UInt8} (hs : s.length ≤ 140737488355328) (hR : R (.pv (.bool (K4 s))) σ) : A1 (cx w0) L4.id [.pv (.str s)] σ R := by
  refine L4.calls ?_
  rw [L4.b0_eq]
  refine HasSuffix_spec (by omega) (F5 ?_)
  rw [suffix_whole]
  exact O0 hR
theorem line_spec {s : List UInt8} (hs : s.length ≤ 140737488355328) (hR : R (.pv (.bool (lineB s))) σ) : A1 (cx w0) M4.id [.pv (.str s)] σ R := by
  have fin : ∀ t, t = lineB s → M4.n4 (M4.X w0 σ.length) w0 σ.length R σ t := by
    rintro t rfl
    refine M4.n4_in ?_
    rw [M4.b4_eq]
    exact O0 hR
  refine M4.calls ?_
  rw [M4.b0_eq]
  refine A5 (fun g => ?_) (fun g => fin _ ?_)
  · refine bare_spec hs (I0 (V5 (F5 (fin _ ?_))))
    rw [← line_same, g, Bool.true_and, Lib.contains_iff_indexByte]
  · rw [lineB, g]; rfl
theorem place_spec {a m : Int} (hR : R (.pv (.bool (placeB a m))) σ) : A1 (cx w0) K3.id [.pv (.int .i64 a), .pv (.int .i64 m)] σ R := by
  have fin : ∀ t, t = placeB a m → K3.n4 (K3.X w0 σ.length) w0 σ.length R σ t := by
    rintro t rfl
    refine K3.n4_in ?_
    rw [K3.b4_eq]
    exact O0 hR
  refine K3.calls ?_
  rw [K3.b0_eq]
  refine A5 (fun g1 => ?_) (fun g1 => fin _ ?_)
  · have g1' : decide (0 ≤ m) = true := g1
    refine A5 (fun g2 => ?_) (fun g2 => fin _ ?_)
    · have g2' : decide (0 ≤ a) = true := g2
      refine A5 (fun g3 => ?_) (fun g3 => ?_)
      · have g3' : decide (0 < a) = true := g3
        refine A5 (fun g4 => fin _ ?_) (fun g4 => fin _ ?_)
        · rw [placeB, g1', g2', g3', g4]; rfl
        · rw [placeB, g1', g2', g3', g4]; rfl
      · have g3' : decide (0 < a) = false := g3
        refine A5 (fun g5 => ?_) (fun g5 => fin _ ?_)
        · refine A5 (fun g4 => fin _ ?_) (fun g4 => fin _ ?_)
          · rw [placeB, g1', g2', g3', g4, g5]; rfl
          · rw [placeB, g1', g2', g3', g4, g5]; rfl
        · rw [placeB, g1', g2', g3', g5]; rfl
    · have g2' : decide (0 ≤ a) = false := g2
      rw [placeB, g1', g2']; rfl
  · have g1' : decide (0 ≤ m) = false := g1
    rw [placeB, g1']; rfl
theorem store_cells {id off : Nat} {ty : TypeId} {cs : List AV} {ti : TI} {v : AV} (ho : σ[id]? = some (.cells ty cs)) (h1 : v.cells.length = ti.size) (h2 : v.cells.all AV.one = true) (h3 : off + v.cells.length ≤ cs.length) : D0 σ ti (.ptr id off) v = some (σ.set id (.cells ty (N3 cs off v.cells))) := by
  unfold D0
  simp only
  rw [if_pos ⟨h1, h2⟩, ho]
  simp only
  rw [if_pos h3]
theorem add_spec {id : Nat} {s : Sd} {t : List UInt8} (ho : σ[id]? = some (.cells 116 (sdC s))) (ht : t.length ≤ 140737488355328) (hR : R (.pv (.bool (!s.e))) (σ.set id (.cells 116 (sdC (addF s t))))) : A1 (cx w0) J0.id [.ptr id 0, .pv (.str t)] σ R := by
  have hid := (List.getElem?_eq_some_iff.1 ho).1
  refine J0.calls ?_
  rw [J0.b0_eq]
  refine A0 rfl (A0 (v := .ptr id (0 + 1)) rfl ?_)
  refine A0 (v := .pv (.bool s.e)) (by rw [aLoad_cells ho]; rfl) (F5 ?_)
  refine A5 (fun g => O0 ?_) (fun g => ?_)
  · rw [g, addF, if_pos g, set_self ho] at hR
    exact hR
  · refine A0 rfl (A0 (v := .ptr id (0 + 0)) rfl ?_)
    refine A0 (v := .pv (.int .i64 s.n)) (by rw [aLoad_cells ho]; rfl) (K2 ?_)
    refine A0 rfl (A0 (v := .ptr id (0 + 0)) rfl ?_)
    refine A0 (store_cells ho rfl rfl (by simp [AV.cells, PV.cells])) ?_
    refine whole_spec ht (F5 ?_)
    refine A0 rfl (A0 (v := .ptr id (0 + 1)) rfl ?_)
    refine A0 (store_cells (List.getElem?_set_self hid) rfl rfl (by simp [AV.cells, PV.cells, N3])) ?_
    refine C5 (by simp) ?_
    rw [List.set_set]
    rw [g, addF, if_neg (by rw [g]; decide)] at hR
    exact hR
theorem sides_loop (L : Laid w0.w) (h : Hnk) (xs : List PV) (hx : xs.length ≤ 140737488355328) : ∀ (r : List Row) (k : Nat) (p q : Sd) (ch : Bool), xs.drop k = r.map rowP → (∀ x ∈ r, x.t.length ≤ 140737488355328) →
    E5.n8 (E5.X w0 0) w0 0 (fun r' _ => r' = outS (U1 r p q ch)) [.cells 39 (hnkC h), .cells 116 (sdC p), .cells 116 (sdC q)] (.ptr 1 0) (.ptr 2 0) ch (.pv (.sl xs)) xs.length k
  | [], k, p, q, ch, hd, _ => by
    have hk := M0 hd
    refine E5.n8_in ?_
    rw [E5.b9_eq, A7, if_neg (by omega)]
    refine E5.n37_in ?_
    rw [E5.b37_eq]
    repeat ((with_reducible first | apply A0 | apply wI | apply wT | apply wP | apply wS | apply wB); exact rfl)
    exact C5 (Nat.zero_le _) rfl
  | c :: r, k, p, q, ch, hd, ht => by
    obtain ⟨h1, h2, hk⟩ := H4 hd
    have hc := ht c (by simp)
    have ih := fun p' q' ch' => sides_loop L h xs hx r (k + 1) p' q' ch' h2 (fun x hx => ht x (List.mem_cons_of_mem _ hx))
    have key31 : ∀ (p' q' : Sd) (t : Bool), U1 (c :: r) p q ch = (if t = true then (p', q', false) else U1 r p' q' (ch || !(c.k == 1))) →
        E5.n31 (E5.X w0 0) w0 0 (fun r' _ => r' = outS (U1 (c :: r) p q ch)) [.cells 39 (hnkC h), .cells 116 (sdC p'), .cells 116 (sdC q'), .cells 51 [.pv (.int .i64 c.k), .pv (.str c.t)]] (.ptr 1 0) (.ptr 2 0) (ch || !(c.k == 1)) (.pv (.sl xs)) xs.length k t := by
      intro p' q' t he
      rw [he]
      refine E5.n31_in ?_
      rw [E5.b31_eq]
      refine A5 (fun g => ?_) (fun g => ?_)
      · rw [if_pos g]
        repeat ((with_reducible first | apply A0 | apply wI | apply wT | apply wP | apply wS | apply wB); exact rfl)
        exact C5 (Nat.zero_le _) rfl
      · rw [if_neg (by rw [g]; decide), I3 hk (by omega)]
        exact E5.n8_weak (EWeak.drop (τ := [.cells 39 (hnkC h), .cells 116 (sdC p'), .cells 116 (sdC q')]) glob0 (Nat.zero_le _) rfl rfl) (ih _ _ _)
    have key29 : kindB c.k = true → lineB c.t = true → ∀ ch', ch' = (ch || !(c.k == 1)) → E5.n29 (E5.X w0 0) w0 0 (fun r' _ => r' = outS (U1 (c :: r) p q ch)) [.cells 39 (hnkC h), .cells 116 (sdC p), .cells 116 (sdC q), .cells 51 [.pv (.int .i64 c.k), .pv (.str c.t)]] (.ptr 1 0) (.ptr 2 0) ch' (.ptr 3 0) (.pv (.sl xs)) xs.length k := by
      rintro gk gl ch' rfl
      have hs : U1 (c :: r) p q ch = if c.k ≠ 3 ∧ p.e = true then (p, q, false) else if c.k ≠ 2 ∧ q.e = true then (if c.k ≠ 3 then addF p c.t else p, q, false) else
          U1 r (if c.k ≠ 3 then addF p c.t else p) (if c.k ≠ 2 then addF q c.t else q) (ch || !(c.k == 1)) := by
        rw [U1, if_pos ⟨gk, gl⟩]
      refine E5.n29_in ?_
      rw [E5.b29_eq]
      repeat ((with_reducible first | apply A0 | apply wI | apply wT | apply wP | apply wS | apply wB); exact rfl)
      rw [M1]
      refine B8 (fun g3 => ?_) (fun g3 => ?_)
      · -- a new line alone
        repeat ((with_reducible first | apply A0 | apply wI | apply wT | apply wP | apply wS | apply wB); exact rfl)
        rw [M1, if_neg (by omega)]
        repeat ((with_reducible first | apply A0 | apply wI | apply wT | apply wP | apply wS | apply wB); exact rfl)
        refine add_spec (id := 2) (s := q) rfl hc (F5 ?_)
        rw [Bool.not_not]
        refine key31 p (addF q c.t) q.e ?_
        rw [hs]
        cases hq : q.e <;> simp [g3, hq, addF]
      · repeat ((with_reducible first | apply A0 | apply wI | apply wT | apply wP | apply wS | apply wB); exact rfl)
        refine add_spec (id := 1) (s := p) rfl hc (F5 ?_)
        rw [Bool.not_not]
        refine A5 (fun ge => ?_) (fun ge => ?_)
        · refine key31 (addF p c.t) q true ?_
          rw [hs]
          simp [g3, ge, addF]
        · repeat ((with_reducible first | apply A0 | apply wI | apply wT | apply wP | apply wS | apply wB); exact rfl)
          rw [M1]
          refine B8 (fun g2 => ?_) (fun g2 => ?_)
          · refine key31 (addF p c.t) q false ?_
            rw [hs]
            simp [ge, g2, addF]
          · repeat ((with_reducible first | apply A0 | apply wI | apply wT | apply wP | apply wS | apply wB); exact rfl)
            refine add_spec (id := 2) (s := q) rfl hc (F5 ?_)
            rw [Bool.not_not]
            refine key31 (addF p c.t) (addF q c.t) q.e ?_
            rw [hs]
            cases hq : q.e <;> simp [g3, g2, ge, hq, addF]
    have key22 : ∀ t, t = !(kindB c.k && lineB c.t) → E5.n22 (E5.X w0 0) w0 0 (fun r' _ => r' = outS (U1 (c :: r) p q ch)) [.cells 39 (hnkC h), .cells 116 (sdC p), .cells 116 (sdC q), .cells 51 [.pv (.int .i64 c.k), .pv (.str c.t)]] (.ptr 1 0) (.ptr 2 0) ch (.ptr 3 0) (.pv (.sl xs)) xs.length k t := by
      rintro t rfl
      refine E5.n22_in ?_
      rw [E5.b22_eq, E3]
      refine A5 (fun g => ?_) (fun g => ?_)
      · rw [Bool.and_eq_true] at g
        refine A5 (fun g2 => key29 g.1 g.2 _ ?_) (fun g2 => ?_)
        · rw [g2]; rfl
        · repeat ((with_reducible first | apply A0 | apply wI | apply wT | apply wP | apply wS | apply wB); exact rfl)
          refine key29 g.1 g.2 _ ?_
          rw [g2]; rfl
      · repeat ((with_reducible first | apply A0 | apply wI | apply wT | apply wP | apply wS | apply wB); exact rfl)
        refine C5 (Nat.zero_le _) ?_
        rw [U1, if_neg (fun h => by rw [h.1, h.2] at g; cases g)]
        rfl
    refine E5.n8_in ?_
    rw [E5.b9_eq, A7, if_pos (by omega)]
    refine A0 (K7 tab51 h1 rfl) ?_
    repeat ((with_reducible first | apply A0 | apply wI | apply wT | apply wP | apply wS | apply wB); exact rfl)
    rw [A7]
    refine B8 (fun g => key22 _ ?_) (fun g => ?_)
    · have : kindB c.k = false := by simp [kindB]; omega
      rw [this]; rfl
    repeat ((with_reducible first | apply A0 | apply wI | apply wT | apply wP | apply wS | apply wB); exact rfl)
    rw [A7]
    refine B8 (fun g' => key22 _ ?_) (fun g' => ?_)
    · have : kindB c.k = false := by simp [kindB]; omega
      rw [this]; rfl
    repeat ((with_reducible first | apply A0 | apply wI | apply wT | apply wP | apply wS | apply wB); exact rfl)
    refine line_spec hc (F5 (key22 _ ?_))
    have : kindB c.k = true := by simp [kindB]; omega
    rw [this, Bool.true_and]
theorem sides_spec (L : Laid w0.w) {h : Hnk} (hl : h.rows.length ≤ 140737488355328) (ht : ∀ x ∈ h.rows, x.t.length ≤ 140737488355328) (hR : R (outS (U1 h.rows ⟨0, false⟩ ⟨0, false⟩ false)) σ) : A1 (cx w0) E5.id [.pv (hnkP h)] σ R := by
  refine A1.alone L rfl (fun w1 L1 => ?_) rfl hR
  refine E5.calls ?_
  rw [E5.b0_eq]
  refine ⟨rfl, ?_⟩
  repeat ((with_reducible first | apply A0 | apply wI | apply wT | apply wP | apply wS | apply wB); exact rfl)
  exact sides_loop L1 h (h.rows.map rowP) (by simpa using hl) h.rows 0 ⟨0, false⟩ ⟨0, false⟩ false rfl ht
def vErr (b : Bool) : AV := if b = true then .pv (.raw .nilIface) else .pv (.iface 63 (.int .i64 100))
theorem Valid_spec (L : Laid w0.w) {h : Hnk} (hl : h.rows.length ≤ 140737488355328) (ht : ∀ x ∈ h.rows, x.t.length ≤ 140737488355328) (hh : h.head.length ≤ 140737488355328) (ha : -9223372036854775808 ≤ h.a ∧ h.a ≤ 9223372036854775807) (hb : -9223372036854775808 ≤ h.b ∧ h.b ≤ 9223372036854775807) (hR : R (vErr (H0 h)) σ) : A1 (cx w0) I9.id [.pv (hnkP h)] σ R := by
  refine A1.alone L rfl (fun w1 L1 => ?_) (by unfold vErr; split <;> rfl) hR
  obtain ⟨s1, s2⟩ := sides_same h.rows ⟨0, false⟩ ⟨0, false⟩ false
  have c1 := cntF_le isOld h.rows 0 (by omega) (by omega)
  have c2 := cntF_le isNew h.rows 0 (by omega) (by omega)
  have key : ∀ S t, t = !H0 h → I9.n7 (I9.X w1 0) w1 0 (fun r' _ => r' = vErr (H0 h)) S t := by
    rintro S t rfl
    refine I9.n7_in ?_
    rw [I9.b7_eq, E3]
    refine A5 (fun g => C5 (Nat.zero_le _) ?_) (fun g => A0 rfl (C5 (Nat.zero_le _) ?_))
    · rw [g]; rfl
    · rw [g]; rfl
  refine I9.calls ?_
  rw [I9.b0_eq]
  refine ⟨rfl, ?_⟩
  repeat ((with_reducible first | apply A0 | apply wI | apply wT | apply wP | apply wS | apply wB); exact rfl)
  refine sides_spec L1 hl ht ?_
  repeat ((with_reducible first | apply A0 | apply wI | apply wT | apply wP | apply wS | apply wB); exact rfl)
  rw [E3]
  refine A5 (fun g1 => ?_) (fun g1 => key _ _ ?_)
  · have g1' : rowsF h.rows false false false = true := by rw [← s1]; exact g1
    obtain ⟨e1, e2⟩ := s2 g1'
    repeat ((with_reducible first | apply A0 | apply wI | apply wT | apply wP | apply wS | apply wB); exact rfl)
    rw [M1]
    refine B8 (fun g2 => ?_) (fun g2 => key _ _ ?_)
    · repeat ((with_reducible first | apply A0 | apply wI | apply wT | apply wP | apply wS | apply wB); exact rfl)
      rw [M1]
      refine B8 (fun g3 => ?_) (fun g3 => key _ _ ?_)
      · have n1 : h.n = cntF isOld h.rows 0 := by rw [← g2]; exact e1
        have n2 : h.m = cntF isNew h.rows 0 := by rw [← g3]; exact e2
        repeat ((with_reducible first | apply A0 | apply wI | apply wT | apply wP | apply wS | apply wB); exact rfl)
        refine place_spec (F5 ?_)
        rw [E3, n1, place_start c1.1 (by omega) ha.1 ha.2]
        refine A5 (fun g4 => ?_) (fun g4 => key _ _ ?_)
        · repeat ((with_reducible first | apply A0 | apply wI | apply wT | apply wP | apply wS | apply wB); exact rfl)
          refine place_spec (F5 ?_)
          rw [E3, n2, place_start c2.1 (by omega) hb.1 hb.2]
          refine A5 (fun g5 => ?_) (fun g5 => key _ _ ?_)
          · repeat ((with_reducible first | apply A0 | apply wI | apply wT | apply wP | apply wS | apply wB); exact rfl)
            rw [A7]
            refine B8 (fun g6 => key _ _ ?_) (fun g6 => ?_)
            · have : decide (h.head.length ≤ 4096) = false := by simp; omega
              simp [H0, this]
            · repeat ((with_reducible first | apply A0 | apply wI | apply wT | apply wP | apply wS | apply wB); exact rfl)
              refine V5 (F5 (key _ _ ?_))
              have : decide (h.head.length ≤ 4096) = true := by simp; omega
              simp [H0, g1', ← n1, ← n2, this]
              rw [← n1] at g4
              rw [← n2] at g5
              simp [g4, g5]
          · simp [H0, g5]
        · simp [H0, g4]
      · have : (h.m == cntF isNew h.rows 0) = false := beq_false_of_ne fun e => g3 (by rw [e]; exact e2)
        simp [H0, this]
    · have : (h.n == cntF isOld h.rows 0) = false := beq_false_of_ne fun e => g2 (by rw [e]; exact e1)
      simp [H0, this]
  · have : rowsF h.rows false false false = false := by rw [← s1]; exact g1
    simp [H0, this]
end
end
end Go.Sv
end
section
namespace Go.Sv
section
open Go Go.RowKit
abbrev nmP (p s : List UInt8) : PV := .agg [.str p, .str s]
def hasB (s bytes : List UInt8) : Bool := s.any fun c => bytes.contains c
theorem any_same : ∀ (s t : List UInt8), Lib.containsAny s t = hasB s t
  | [], t => rfl
  | c :: r, t => by
    have ih := any_same r t
    have hg := Lib.indexAny_ge t r
    unfold Lib.containsAny at ih ⊢
    simp only [hasB, List.any_cons] at ih ⊢
    rw [Lib.indexAny]
    cases hc : t.contains c with
    | true => simp
    | false =>
      rw [Bool.false_or, ← ih]
      simp only [Bool.false_eq_true, if_false]
      by_cases hm : Lib.indexAny r t = -1
      · rw [hm]; rfl
      · rw [if_neg (by simpa using hm), decide_eq_decide]; omega
def L2 (p s : List UInt8) : Bool := !(p == []) && !(p.contains 0) && !(hasB s [9, 10, 0])
def J5 (p s : List UInt8) : List UInt8 := if s = [] then quoteF p else (quoteF p ++ [9]) ++ s
def spanF (a n : Int) : List UInt8 := if n = 1 then Lib.itoa a else (Lib.itoa a ++ [44]) ++ Lib.itoa n
def placeI (a n : Int) : Int := if n = 0 then a else IntKind.wrap .i64 (a - 1)
def ordB (g h : Hnk) : Bool := decide (placeI h.a h.n ≥ IntKind.wrap .i64 (placeI g.a g.n + g.n)) && decide (placeI h.b h.m ≥ IntKind.wrap .i64 (placeI g.b g.m + g.m))
def missS : List UInt8 := [92, 32, 78, 111, 32, 110, 101, 119, 108, 105, 110, 101, 32, 97, 116, 32, 101, 110, 100, 32, 111, 102, 32, 102, 105, 108, 101, 10]
def tailF (t : List UInt8) : List UInt8 := if K4 t = true then t else (t ++ [10]) ++ missS
def markF (k : Int) : List UInt8 := if k = 2 then [45] else if k = 3 then [43] else [32]
def rowF1 (r : Row) : List UInt8 := markF r.k ++ tailF r.t
def headF (h : Hnk) : List UInt8 := (((([64, 64, 32, 45] ++ spanF h.a h.n) ++ [32, 43]) ++ spanF h.b h.m) ++ [32, 64, 64]) ++ (if h.head = [] then [] else [32] ++ h.head)
def hunkF (h : Hnk) : List UInt8 := (headF h ++ [10]) ++ h.rows.flatMap rowF1
theorem Y4 {n : Int} (h0 : 0 ≤ n) (h1 : n ≤ 9223372036854775807) : (Lib.itoa n).length ≤ 20 := by
  rw [itoa_dec h0]; exact dec_len (by omega)
theorem spanF_len {a n : Int} (h0 : 0 ≤ a) (h1 : a ≤ 9223372036854775807) (h2 : 0 ≤ n) (h3 : n ≤ 9223372036854775807) : (spanF a n).length ≤ 41 := by
  have e1 := Y4 h0 h1
  have e2 := Y4 h2 h3
  unfold spanF
  split
  · omega
  · simp only [List.length_append, List.length_cons, List.length_nil]; omega
theorem shownF_len {p s : List UInt8} : (J5 p s).length ≤ 4 * p.length + s.length + 3 := by
  have := quoteF_len p
  unfold J5
  split
  · omega
  · simp only [List.length_append, List.length_cons, List.length_nil]; omega
theorem rowF1_len (r : Row) : (rowF1 r).length ≤ r.t.length + 30 := by
  have e1 : (markF r.k).length = 1 := by unfold markF; split <;> (try split) <;> rfl
  have e2 : (tailF r.t).length ≤ r.t.length + 29 := by
    unfold tailF
    split
    · omega
    · simp only [List.length_append, List.length_cons, List.length_nil, missS]; omega
  simp only [rowF1, List.length_append]; omega
theorem validF_facts {h : Hnk} (hv : H0 h = true) (hl : h.rows.length ≤ 140737488355328) : rowsF h.rows false false false = true ∧ 0 ≤ h.n ∧ h.n ≤ 140737488355328 ∧ 0 ≤ h.m ∧ h.m ≤ 140737488355328 ∧ 0 ≤ h.a ∧ 0 ≤ h.b := by
  simp only [H0, Bool.and_eq_true, beq_iff_eq] at hv
  obtain ⟨⟨⟨⟨⟨⟨v1, v2⟩, v3⟩, v4⟩, v5⟩, v6⟩, v7⟩ := hv
  have c1 := cntF_le isOld h.rows 0 (by omega) (by omega)
  have c2 := cntF_le isNew h.rows 0 (by omega) (by omega)
  simp only [startB, Bool.and_eq_true, decide_eq_true_eq] at v4 v5
  refine ⟨v1, by omega, by omega, by omega, by omega, ?_, ?_⟩
  · have := v4.1; split at this <;> omega
  · have := v5.1; split at this <;> omega
theorem rowsF_kinds : ∀ (l : List Row) (e o c : Bool), rowsF l e o c = true → ∀ r ∈ l, r.k = 1 ∨ r.k = 2 ∨ r.k = 3
  | [], _, _, _, _, r, h => by simp at h
  | x :: l, e, o, c, h, r, hr => by
    rw [rowsF] at h
    have hb : badR x e o = false := by
      cases hb : badR x e o with
      | false => rfl
      | true => rw [hb] at h; cases h
    rw [hb] at h
    rcases List.mem_cons.1 hr with rfl | hr
    · simp only [badR, isOld, isNew, Bool.or_eq_false_iff, Bool.and_eq_false_iff, Bool.not_eq_false', Bool.or_eq_true, beq_iff_eq] at hb
      obtain ⟨⟨⟨h1, _⟩, _⟩, _⟩ := hb
      omega
    · exact rowsF_kinds l _ _ _ (by simpa using h) r hr
end
section
open Go Go.RowKit Go.Proofs
variable {w0 : Base} {σ : Store} {R : AV → Store → Prop}
theorem header_spec (L : Laid w0.w) {p s : List UInt8} (hp : p.length ≤ 1048576) (hs : s.length ≤ 1048576) (hR : R (.tup [.pv (.str (if L2 p s = true then J5 p s else [])), .pv (.bool (L2 p s))]) σ) : A1 (cx w0) F1.id [.pv (nmP p s)] σ R := by
  refine A1.alone L rfl (fun w1 L1 => ?_) rfl hR
  have q := quoteF_len p
  have key : ∀ t, t = !L2 p s → F1.n5 (F1.X w1 0) w1 0 (fun r' _ => r' = .tup [.pv (.str (if L2 p s = true then J5 p s else [])), .pv (.bool (L2 p s))]) [.cells 23 [.pv (.str p), .pv (.str s)]] (.ptr 0 0) t := by
    rintro t rfl
    refine F1.n5_in ?_
    rw [F1.b5_eq, E3]
    refine A5 (fun g => ?_) (fun g => C5 (Nat.zero_le _) ?_)
    · have fin : ∀ t, t = J5 p s → F1.n18 (F1.X w1 0) w1 0 (fun r' _ => r' = .tup [.pv (.str (if L2 p s = true then J5 p s else [])), .pv (.bool (L2 p s))]) [.cells 23 [.pv (.str p), .pv (.str s)]] t := by
        rintro t rfl
        refine F1.n18_in ?_
        rw [F1.b18_eq]
        refine C5 (Nat.zero_le _) ?_
        rw [g]; rfl
      repeat ((with_reducible first | apply A0 | apply wI | apply wT | apply wP | apply wS | apply wB); exact rfl)
      refine Quote_spec L1 (by omega) (I0 ?_)
      repeat ((with_reducible first | apply A0 | apply wI | apply wT | apply wP | apply wS | apply wB); exact rfl)
      rw [E3, P0]
      refine B8 (fun g2 => fin _ ?_) (fun g2 => ?_)
      · rw [J5, if_pos g2]
      · repeat ((with_reducible first | apply A0 | apply wI | apply wT | apply wP | apply wS | apply wB); exact rfl)
        refine ⟨by simp only [List.length_cons, List.length_nil]; omega, by simp only [List.length_append, List.length_cons, List.length_nil]; omega, fin _ ?_⟩
        rw [J5, if_neg g2, List.append_assoc]
    · rw [g]; rfl
  refine F1.calls ?_
  rw [F1.b0_eq]
  refine ⟨rfl, ?_⟩
  repeat ((with_reducible first | apply A0 | apply wI | apply wT | apply wP | apply wS | apply wB); exact rfl)
  refine A5 (fun g1 => key _ ?_) (fun g1 => ?_)
  · rw [L2, g1]; rfl
  repeat ((with_reducible first | apply A0 | apply wI | apply wT | apply wP | apply wS | apply wB); exact rfl)
  refine V5 (F5 ?_)
  refine A5 (fun g2 => key _ ?_) (fun g2 => ?_)
  · rw [L2, g1, g2]; rfl
  repeat ((with_reducible first | apply A0 | apply wI | apply wT | apply wP | apply wS | apply wB); exact rfl)
  refine ContainsAny_spec (by decide) (by omega) (by decide) (F5 (key _ ?_))
  rw [any_same, L2, g1, g2]
  show _ = !(!(hasB s [9, 10, 0]))
  rw [Bool.not_not]
theorem span_spec (L : Laid w0.w) {a n : Int} (h0 : 0 ≤ a) (h1 : a ≤ 9223372036854775807) (h2 : 0 ≤ n) (h3 : n ≤ 9223372036854775807) (hR : R (.pv (.str (spanF a n))) σ) : A1 (cx w0) L9.id [.pv (.int .i64 a), .pv (.int .i64 n)] σ R := by
  have e1 := Y4 h0 h1
  have e2 := Y4 h2 h3
  refine L9.calls ?_
  rw [L9.b0_eq, G4]
  unfold spanF at hR
  refine B8 (fun g => ?_) (fun g => ?_)
  · rw [if_pos g] at hR
    exact W3 L (by omega) h1 (I0 (O0 hR))
  · rw [if_neg g] at hR
    refine W3 L (by omega) h1 (I0 ⟨by simp only [List.length_cons, List.length_nil]; omega, ?_⟩)
    exact W3 L (by omega) h3 (I0 ⟨by simp only [List.length_append, List.length_cons, List.length_nil]; omega, O0 hR⟩)
theorem uplace_spec {a n : Int} (hR : R (.pv (.int .i64 (placeI a n))) σ) : A1 (cx w0) J1.id [.pv (.int .i64 a), .pv (.int .i64 n)] σ R := by
  refine J1.calls ?_
  rw [J1.b0_eq, G4]
  unfold placeI at hR
  refine B8 (fun g => ?_) (fun g => ?_)
  · rw [if_pos g] at hR; exact O0 hR
  · rw [if_neg g] at hR; exact O0 hR
theorem follows_spec (L : Laid w0.w) {g h : Hnk} (hR : R (.pv (.bool (ordB g h))) σ) : A1 (cx w0) G9.id [.pv (hnkP g), .pv (hnkP h)] σ R := by
  refine A1.alone L rfl (fun w1 L1 => ?_) rfl hR
  have fin : ∀ t, t = ordB g h → G9.n4 (G9.X w1 0) w1 0 (fun r' _ => r' = .pv (.bool (ordB g h))) [.cells 39 (hnkC g), .cells 39 (hnkC h)] t := by
    rintro t rfl
    refine G9.n4_in ?_
    rw [G9.b4_eq]
    exact C5 (Nat.zero_le _) rfl
  refine G9.calls ?_
  rw [G9.b0_eq]
  refine ⟨rfl, rfl, ?_⟩
  repeat ((with_reducible first | apply A0 | apply wI | apply wT | apply wP | apply wS | apply wB); exact rfl)
  refine uplace_spec (K2 ⟨rfl, rfl, rfl, ?_⟩)
  refine uplace_spec (K2 ⟨rfl, ?_⟩)
  refine A5 (fun g1 => ?_) (fun g1 => fin _ ?_)
  · repeat ((with_reducible first | apply A0 | apply wI | apply wT | apply wP | apply wS | apply wB); exact rfl)
    refine uplace_spec (K2 ⟨rfl, rfl, rfl, ?_⟩)
    refine uplace_spec (K2 ⟨rfl, fin _ ?_⟩)
    rw [ordB, g1]; rfl
  · rw [ordB, g1]; rfl
end
end Go.Sv
end
