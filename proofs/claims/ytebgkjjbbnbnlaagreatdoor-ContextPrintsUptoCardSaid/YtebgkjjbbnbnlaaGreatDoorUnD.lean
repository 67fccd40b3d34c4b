/- Package unified, printing: names, ranges, order, the text of a hunk: what the program and the document's answer compute. -/
import Derived.Test.YtebgkjjbbnbnlaaGreatDoorUnB
import Derived.Test.YtebgkjjbbnbnlaaGreatDoorUnC
import Derived.Test.YtebgkjjbbnbnlaaGreatDoorStJ
import Derived.Test.YtebgkjjbbnbnlaaGreatDoorDg
import Derived.Test.YtebgkjjbbnbnlaaGreatDoorHk
set_option linter.unusedVariables false
set_option linter.unusedSimpArgs false
set_option maxRecDepth 100000
namespace Go.Sv
section
open Go Go.RowKit
abbrev nmP (p s : List UInt8) : PV := .agg [.str p, .str s]
def hasB (s bytes : List UInt8) : Bool := s.any fun c => bytes.contains c
theorem any_same : ∀ (s t : List UInt8), Lib.containsAny s t = hasB s t
  | [], t => rfl
  | c :: r, t => by
    have ih := any_same r t
    have hg := Lib.indexAny_ge t r
    unfold Lib.containsAny at ih ⊢
    simp only [hasB, List.any_cons] at ih ⊢
    rw [Lib.indexAny]
    cases hc : t.contains c with
    | true => simp
    | false =>
      rw [Bool.false_or, ← ih]
      simp only [Bool.false_eq_true, if_false]
      by_cases hm : Lib.indexAny r t = -1
      · rw [hm]; rfl
      · rw [if_neg (by simpa using hm), decide_eq_decide]; omega
theorem hasB_one (s : List UInt8) (c : UInt8) : hasB s [c] = s.contains c := by
  induction s with
  | nil => rfl
  | cons a r ih =>
    simp only [hasB, List.any_cons] at ih ⊢
    rw [ih, List.contains_cons]
    congr 1
    show (a == c || false) = _
    rw [Bool.or_false, Bool.eq_iff_iff, beq_iff_eq, beq_iff_eq]
    exact eq_comm
def nameOKB (p s : List UInt8) : Bool := !(p == []) && !(p.contains 0) && !(hasB s [9, 10, 0])
def shownF (p s : List UInt8) : List UInt8 := if s = [] then quoteF p else (quoteF p ++ [9]) ++ s
def spanF (a n : Int) : List UInt8 := if n = 1 then Lib.itoa a else (Lib.itoa a ++ [44]) ++ Lib.itoa n
def placeI (a n : Int) : Int := if n = 0 then a else IntKind.wrap .i64 (a - 1)
def ordB (g h : Hnk) : Bool := decide (placeI h.a h.n ≥ IntKind.wrap .i64 (placeI g.a g.n + g.n)) && decide (placeI h.b h.m ≥ IntKind.wrap .i64 (placeI g.b g.m + g.m))
def missS : List UInt8 := [92, 32, 78, 111, 32, 110, 101, 119, 108, 105, 110, 101, 32, 97, 116, 32, 101, 110, 100, 32, 111, 102, 32, 102, 105, 108, 101, 10]
def tailF (t : List UInt8) : List UInt8 := if wholeB t = true then t else (t ++ [10]) ++ missS
def markF (k : Int) : List UInt8 := if k = 2 then [45] else if k = 3 then [43] else [32]
def rowF1 (r : Row) : List UInt8 := markF r.k ++ tailF r.t
def headF (h : Hnk) : List UInt8 := (((([64, 64, 32, 45] ++ spanF h.a h.n) ++ [32, 43]) ++ spanF h.b h.m) ++ [32, 64, 64]) ++ (if h.head = [] then [] else [32] ++ h.head)
def hunkF (h : Hnk) : List UInt8 := (headF h ++ [10]) ++ h.rows.flatMap rowF1
theorem itoa_len {n : Int} (h0 : 0 ≤ n) (h1 : n ≤ 9223372036854775807) : (Lib.itoa n).length ≤ 20 := by
  rw [itoa_dec h0]; exact dec_len (by omega)
theorem spanF_len {a n : Int} (h0 : 0 ≤ a) (h1 : a ≤ 9223372036854775807) (h2 : 0 ≤ n) (h3 : n ≤ 9223372036854775807) : (spanF a n).length ≤ 41 := by
  have e1 := itoa_len h0 h1
  have e2 := itoa_len h2 h3
  unfold spanF
  split
  · omega
  · simp only [List.length_append, List.length_cons, List.length_nil]; omega
theorem shownF_len {p s : List UInt8} : (shownF p s).length ≤ 4 * p.length + s.length + 3 := by
  have := quoteF_len p
  unfold shownF
  split
  · omega
  · simp only [List.length_append, List.length_cons, List.length_nil]; omega
theorem rowF1_len (r : Row) : (rowF1 r).length ≤ r.t.length + 30 := by
  have e1 : (markF r.k).length = 1 := by unfold markF; split <;> (try split) <;> rfl
  have e2 : (tailF r.t).length ≤ r.t.length + 29 := by
    unfold tailF
    split
    · omega
    · simp only [List.length_append, List.length_cons, List.length_nil, missS]; omega
  simp only [rowF1, List.length_append]; omega
theorem validF_facts {h : Hnk} (hv : validF h = true) (hl : h.rows.length ≤ 140737488355328) : rowsF h.rows false false false = true ∧ 0 ≤ h.n ∧ h.n ≤ 140737488355328 ∧ 0 ≤ h.m ∧ h.m ≤ 140737488355328 ∧ 0 ≤ h.a ∧ 0 ≤ h.b := by
  simp only [validF, Bool.and_eq_true, beq_iff_eq] at hv
  obtain ⟨⟨⟨⟨⟨⟨v1, v2⟩, v3⟩, v4⟩, v5⟩, v6⟩, v7⟩ := hv
  have c1 := cntF_le isOld h.rows 0 (by omega) (by omega)
  have c2 := cntF_le isNew h.rows 0 (by omega) (by omega)
  simp only [startB, Bool.and_eq_true, decide_eq_true_eq] at v4 v5
  refine ⟨v1, by omega, by omega, by omega, by omega, ?_, ?_⟩
  · have := v4.1; split at this <;> omega
  · have := v5.1; split at this <;> omega
theorem rowsF_kinds : ∀ (l : List Row) (e o c : Bool), rowsF l e o c = true → ∀ r ∈ l, r.k = 1 ∨ r.k = 2 ∨ r.k = 3
  | [], _, _, _, _, r, h => by simp at h
  | x :: l, e, o, c, h, r, hr => by
    rw [rowsF] at h
    have hb : badR x e o = false := by
      cases hb : badR x e o with
      | false => rfl
      | true => rw [hb] at h; cases h
    rw [hb] at h
    rcases List.mem_cons.1 hr with rfl | hr
    · simp only [badR, isOld, isNew, Bool.or_eq_false_iff, Bool.and_eq_false_iff, Bool.not_eq_false', Bool.or_eq_true, beq_iff_eq] at hb
      obtain ⟨⟨⟨h1, _⟩, _⟩, _⟩ := hb
      omega
    · exact rowsF_kinds l _ _ _ (by simpa using h) r hr
end
section
open Go Go.RowKit Go.Proofs
variable {w0 : Base} {σ : Store} {R : AV → Store → Prop}
theorem header_spec (L : Laid w0.w) {p s : List UInt8} (hp : p.length ≤ 1048576) (hs : s.length ≤ 1048576) (hR : R (.tup [.pv (.str (if nameOKB p s = true then shownF p s else [])), .pv (.bool (nameOKB p s))]) σ) : SCalls (cx w0) unified_header.id [.pv (nmP p s)] σ R := by
  refine SCalls.alone L rfl (fun w1 L1 => ?_) rfl hR
  have q := quoteF_len p
  have key : ∀ t, t = !nameOKB p s → unified_header.n5 (unified_header.X w1 0) w1 0 (fun r' _ => r' = .tup [.pv (.str (if nameOKB p s = true then shownF p s else [])), .pv (.bool (nameOKB p s))]) [.cells 23 [.pv (.str p), .pv (.str s)]] (.ptr 0 0) t := by
    rintro t rfl
    refine unified_header.n5_in ?_
    rw [unified_header.b5_eq, condB_not]
    refine condB_split (fun g => ?_) (fun g => fin_keep (Nat.zero_le _) ?_)
    · have fin : ∀ t, t = shownF p s → unified_header.n18 (unified_header.X w1 0) w1 0 (fun r' _ => r' = .tup [.pv (.str (if nameOKB p s = true then shownF p s else [])), .pv (.bool (nameOKB p s))]) [.cells 23 [.pv (.str p), .pv (.str s)]] t := by
        rintro t rfl
        refine unified_header.n18_in ?_
        rw [unified_header.b18_eq]
        refine fin_keep (Nat.zero_le _) ?_
        rw [g]; rfl
      repeat ((with_reducible first | apply opt_in | apply wI | apply wT | apply wP | apply wS | apply wB); exact rfl)
      refine Quote_spec L1 (by omega) (isS_in ?_)
      repeat ((with_reducible first | apply opt_in | apply wI | apply wT | apply wP | apply wS | apply wB); exact rfl)
      rw [condB_not, condB_sbeq]
      refine ite_split (fun g2 => fin _ ?_) (fun g2 => ?_)
      · rw [shownF, if_pos g2]
      · repeat ((with_reducible first | apply opt_in | apply wI | apply wT | apply wP | apply wS | apply wB); exact rfl)
        refine ⟨by simp only [List.length_cons, List.length_nil]; omega, by simp only [List.length_append, List.length_cons, List.length_nil]; omega, fin _ ?_⟩
        rw [shownF, if_neg g2, List.append_assoc]
    · rw [g]; rfl
  refine unified_header.calls ?_
  rw [unified_header.b0_eq]
  refine ⟨rfl, ?_⟩
  repeat ((with_reducible first | apply opt_in | apply wI | apply wT | apply wP | apply wS | apply wB); exact rfl)
  refine condB_split (fun g1 => key _ ?_) (fun g1 => ?_)
  · rw [nameOKB, g1]; rfl
  repeat ((with_reducible first | apply opt_in | apply wI | apply wT | apply wP | apply wS | apply wB); exact rfl)
  refine Contains1_spec (isB_in ?_)
  refine condB_split (fun g2 => key _ ?_) (fun g2 => ?_)
  · rw [nameOKB, g1, g2]; rfl
  repeat ((with_reducible first | apply opt_in | apply wI | apply wT | apply wP | apply wS | apply wB); exact rfl)
  refine ContainsAny_spec (by decide) (by omega) (by decide) (isB_in (key _ ?_))
  rw [any_same, nameOKB, g1, g2]
  show _ = !(!(hasB s [9, 10, 0]))
  rw [Bool.not_not]
theorem has_inner (s t : List UInt8) (hs : s.length ≤ 1048576) (ht : t.length ≤ 1000) (i : Nat) (c : UInt8) (hi : s[i]? = some c) (v : Bool) (hv : v = (t.contains c || hasB (s.drop (i + 1)) t))
    (next : selvageref11_has.n6 (selvageref11_has.X w0 0) w0 0 (fun r' _ => r' = .pv (.bool (hasB (s.drop (i + 1)) t))) [] s t ((i + 1 : Nat) : Int)) : ∀ (r : List UInt8) (k : Nat), t.drop k = r → v = (r.contains c || hasB (s.drop (i + 1)) t) →
    selvageref11_has.n18 (selvageref11_has.X w0 0) w0 0 (fun r' _ => r' = .pv (.bool v)) [] s t i k
  | [], k, h, e => by
    have hk := drop_end h
    refine selvageref11_has.n18_in ?_
    rw [selvageref11_has.b19_eq, condB_decide, if_neg (by omega)]
    refine selvageref11_has.n35_in ?_
    rw [selvageref11_has.b35_eq, wrap_next (List.getElem?_eq_some_iff.1 hi).1 (by omega), e]
    exact next
  | d :: r, k, h, e => by
    obtain ⟨h1, h2, hk⟩ := drop_facts h
    refine selvageref11_has.n18_in ?_
    rw [selvageref11_has.b19_eq, condB_decide, if_pos (by omega)]
    refine opt_in (idx_str hi) (isI_in ?_)
    refine opt_in (idx_str h1) (isI_in ?_)
    rw [condB_ibeq]
    rw [List.contains_cons] at e
    refine ite_split (fun g => fin_keep (Nat.zero_le _) ?_) (fun g => ?_)
    · have hcd : c = d := UInt8.toNat_inj.1 (by omega)
      rw [e, hcd]; simp
    · rw [wrap_next hk (by omega)]
      refine has_inner s t hs ht i c hi v hv next r (k + 1) h2 ?_
      have : (c == d) = false := beq_false_of_ne fun h => g (by rw [h])
      rw [e, this, Bool.false_or]
theorem has_loop (s t : List UInt8) (hs : s.length ≤ 1048576) (ht : t.length ≤ 1000) : ∀ (r : List UInt8) (i : Nat), s.drop i = r → selvageref11_has.n6 (selvageref11_has.X w0 0) w0 0 (fun r' _ => r' = .pv (.bool (hasB r t))) [] s t i
  | [], i, h => by
    have hk := drop_end h
    refine selvageref11_has.n6_in ?_
    rw [selvageref11_has.b7_eq, condB_decide, if_neg (by omega)]
    refine selvageref11_has.n36_in ?_
    rw [selvageref11_has.b36_eq]
    exact fin_keep (Nat.zero_le _) rfl
  | c :: r, i, h => by
    obtain ⟨h1, h2, hk⟩ := drop_facts h
    refine selvageref11_has.n6_in ?_
    rw [selvageref11_has.b7_eq, condB_decide, if_pos (by omega)]
    have e : hasB (c :: r) t = (t.contains c || hasB (s.drop (i + 1)) t) := by rw [h2]; rfl
    exact has_inner s t hs ht i c h1 _ e (by rw [h2]; exact has_loop s t hs ht r (i + 1) h2) t 0 rfl e
theorem has_spec (L : Laid w0.w) {s t : List UInt8} (hs : s.length ≤ 1048576) (ht : t.length ≤ 1000) (hR : R (.pv (.bool (hasB s t))) σ) : SCalls (cx w0) selvageref11_has.id [.pv (.str s), .pv (.str t)] σ R := by
  refine SCalls.alone L rfl (fun w1 L1 => ?_) rfl hR
  refine selvageref11_has.calls ?_
  rw [selvageref11_has.b0_eq]
  exact has_loop s t hs ht s 0 rfl
theorem NameOK_spec (L : Laid w0.w) {p s : List UInt8} (hp : p.length ≤ 1048576) (hs : s.length ≤ 1048576) (hR : R (.pv (.bool (nameOKB p s))) σ) : SCalls (cx w0) selvageref11_NameOK.id [.pv (nmP p s)] σ R := by
  refine SCalls.alone L rfl (fun w1 L1 => ?_) rfl hR
  have fin : ∀ t, t = nameOKB p s → selvageref11_NameOK.n4 (selvageref11_NameOK.X w1 0) w1 0 (fun r' _ => r' = .pv (.bool (nameOKB p s))) [.cells 23 [.pv (.str p), .pv (.str s)]] t := by
    rintro t rfl
    refine selvageref11_NameOK.n4_in ?_
    rw [selvageref11_NameOK.b4_eq]
    exact fin_keep (Nat.zero_le _) rfl
  refine selvageref11_NameOK.calls ?_
  rw [selvageref11_NameOK.b0_eq]
  refine ⟨rfl, ?_⟩
  repeat ((with_reducible first | apply opt_in | apply wI | apply wT | apply wP | apply wS | apply wB); exact rfl)
  rw [condB_not]
  refine condB_split (fun g1 => fin _ ?_) (fun g1 => ?_)
  · rw [nameOKB, g1]; rfl
  repeat ((with_reducible first | apply opt_in | apply wI | apply wT | apply wP | apply wS | apply wB); exact rfl)
  refine has_spec L1 hp (by decide) (isB_in ?_)
  rw [condB_not, hasB_one]
  refine condB_split (fun g2 => fin _ ?_) (fun g2 => ?_)
  · rw [nameOKB, g1, g2]; rfl
  repeat ((with_reducible first | apply opt_in | apply wI | apply wT | apply wP | apply wS | apply wB); exact rfl)
  refine has_spec L1 hs (by decide) (isB_in (fin _ ?_))
  rw [nameOKB, g1, g2]; rfl
theorem Shown_spec (L : Laid w0.w) {p s : List UInt8} (hp : p.length ≤ 1048576) (hs : s.length ≤ 1048576) (hR : R (.pv (.str (shownF p s))) σ) : SCalls (cx w0) selvageref11_Shown.id [.pv (nmP p s)] σ R := by
  refine SCalls.alone L rfl (fun w1 L1 => ?_) rfl hR
  have q := quoteF_len p
  have fin : ∀ t, t = shownF p s → selvageref11_Shown.n10 (selvageref11_Shown.X w1 0) w1 0 (fun r' _ => r' = .pv (.str (shownF p s))) [.cells 23 [.pv (.str p), .pv (.str s)]] t := by
    rintro t rfl
    refine selvageref11_Shown.n10_in ?_
    rw [selvageref11_Shown.b10_eq]
    exact fin_keep (Nat.zero_le _) rfl
  refine selvageref11_Shown.calls ?_
  rw [selvageref11_Shown.b0_eq]
  refine ⟨rfl, ?_⟩
  repeat ((with_reducible first | apply opt_in | apply wI | apply wT | apply wP | apply wS | apply wB); exact rfl)
  refine rQuote_spec L1 (by omega) (isS_in ?_)
  repeat ((with_reducible first | apply opt_in | apply wI | apply wT | apply wP | apply wS | apply wB); exact rfl)
  rw [condB_not, condB_sbeq]
  refine ite_split (fun g2 => fin _ ?_) (fun g2 => ?_)
  · rw [shownF, if_pos g2]
  · refine ⟨by simp only [List.length_cons, List.length_nil]; omega, ?_⟩
    repeat ((with_reducible first | apply opt_in | apply wI | apply wT | apply wP | apply wS | apply wB); exact rfl)
    refine ⟨by simp only [List.length_append, List.length_cons, List.length_nil]; omega, fin _ ?_⟩
    rw [shownF, if_neg g2]
theorem span_spec (L : Laid w0.w) {a n : Int} (h0 : 0 ≤ a) (h1 : a ≤ 9223372036854775807) (h2 : 0 ≤ n) (h3 : n ≤ 9223372036854775807) (hR : R (.pv (.str (spanF a n))) σ) : SCalls (cx w0) unified_span.id [.pv (.int .i64 a), .pv (.int .i64 n)] σ R := by
  have e1 := itoa_len h0 h1
  have e2 := itoa_len h2 h3
  refine unified_span.calls ?_
  rw [unified_span.b0_eq, condB_ibeq]
  unfold spanF at hR
  refine ite_split (fun g => ?_) (fun g => ?_)
  · rw [if_pos g] at hR
    exact Itoa_spec L (by omega) h1 (isS_in (fin_same hR))
  · rw [if_neg g] at hR
    refine Itoa_spec L (by omega) h1 (isS_in ⟨by simp only [List.length_cons, List.length_nil]; omega, ?_⟩)
    exact Itoa_spec L (by omega) h3 (isS_in ⟨by simp only [List.length_append, List.length_cons, List.length_nil]; omega, fin_same hR⟩)
theorem uplace_spec {a n : Int} (hR : R (.pv (.int .i64 (placeI a n))) σ) : SCalls (cx w0) unified_place.id [.pv (.int .i64 a), .pv (.int .i64 n)] σ R := by
  refine unified_place.calls ?_
  rw [unified_place.b0_eq, condB_ibeq]
  unfold placeI at hR
  refine ite_split (fun g => ?_) (fun g => ?_)
  · rw [if_pos g] at hR; exact fin_same hR
  · rw [if_neg g] at hR; exact fin_same hR
theorem rplace_spec {a n : Int} (hR : R (.pv (.int .i64 (placeI a n))) σ) : SCalls (cx w0) selvageref11_Place.id [.pv (.int .i64 a), .pv (.int .i64 n)] σ R := by
  refine selvageref11_Place.calls ?_
  rw [selvageref11_Place.b0_eq, condB_ibeq]
  unfold placeI at hR
  refine ite_split (fun g => ?_) (fun g => ?_)
  · rw [if_pos g] at hR; exact fin_same hR
  · rw [if_neg g] at hR; exact fin_same hR
theorem follows_spec (L : Laid w0.w) {g h : Hnk} (hR : R (.pv (.bool (ordB g h))) σ) : SCalls (cx w0) unified_follows.id [.pv (hnkP g), .pv (hnkP h)] σ R := by
  refine SCalls.alone L rfl (fun w1 L1 => ?_) rfl hR
  have fin : ∀ t, t = ordB g h → unified_follows.n4 (unified_follows.X w1 0) w1 0 (fun r' _ => r' = .pv (.bool (ordB g h))) [.cells 39 (hnkC g), .cells 39 (hnkC h)] t := by
    rintro t rfl
    refine unified_follows.n4_in ?_
    rw [unified_follows.b4_eq]
    exact fin_keep (Nat.zero_le _) rfl
  refine unified_follows.calls ?_
  rw [unified_follows.b0_eq]
  refine ⟨rfl, rfl, ?_⟩
  repeat ((with_reducible first | apply opt_in | apply wI | apply wT | apply wP | apply wS | apply wB); exact rfl)
  refine uplace_spec (isI_in ⟨rfl, rfl, rfl, ?_⟩)
  refine uplace_spec (isI_in ⟨rfl, ?_⟩)
  refine condB_split (fun g1 => ?_) (fun g1 => fin _ ?_)
  · repeat ((with_reducible first | apply opt_in | apply wI | apply wT | apply wP | apply wS | apply wB); exact rfl)
    refine uplace_spec (isI_in ⟨rfl, rfl, rfl, ?_⟩)
    refine uplace_spec (isI_in ⟨rfl, fin _ ?_⟩)
    rw [ordB, g1]; rfl
  · rw [ordB, g1]; rfl
theorem InOrder_spec (L : Laid w0.w) {g h : Hnk} (hR : R (.pv (.bool (ordB g h))) σ) : SCalls (cx w0) selvageref11_InOrder.id [.pv (hnkP g), .pv (hnkP h)] σ R := by
  refine SCalls.alone L rfl (fun w1 L1 => ?_) rfl hR
  have fin : ∀ t, t = ordB g h → selvageref11_InOrder.n4 (selvageref11_InOrder.X w1 0) w1 0 (fun r' _ => r' = .pv (.bool (ordB g h))) [.cells 39 (hnkC g), .cells 39 (hnkC h)] t := by
    rintro t rfl
    refine selvageref11_InOrder.n4_in ?_
    rw [selvageref11_InOrder.b4_eq]
    exact fin_keep (Nat.zero_le _) rfl
  refine selvageref11_InOrder.calls ?_
  rw [selvageref11_InOrder.b0_eq]
  refine ⟨rfl, rfl, ?_⟩
  repeat ((with_reducible first | apply opt_in | apply wI | apply wT | apply wP | apply wS | apply wB); exact rfl)
  refine rplace_spec (isI_in ⟨rfl, rfl, rfl, ?_⟩)
  refine rplace_spec (isI_in ⟨rfl, ?_⟩)
  refine condB_split (fun g1 => ?_) (fun g1 => fin _ ?_)
  · repeat ((with_reducible first | apply opt_in | apply wI | apply wT | apply wP | apply wS | apply wB); exact rfl)
    refine rplace_spec (isI_in ⟨rfl, rfl, rfl, ?_⟩)
    refine rplace_spec (isI_in ⟨rfl, fin _ ?_⟩)
    rw [ordB, g1]; rfl
  · rw [ordB, g1]; rfl
theorem Tail_spec {t : List UInt8} (ht : t.length ≤ 1048576) (hR : R (.pv (.str (tailF t))) σ) : SCalls (cx w0) selvageref11_Tail.id [.pv (.str t)] σ R := by
  refine selvageref11_Tail.calls ?_
  rw [selvageref11_Tail.b0_eq]
  refine rwhole_spec (by omega) (isB_in ?_)
  unfold tailF at hR
  refine condB_split (fun g => ?_) (fun g => ?_)
  · rw [if_pos g] at hR; exact fin_same hR
  · rw [if_neg (by rw [g]; decide)] at hR
    exact ⟨by simp only [List.length_cons, List.length_nil]; omega, by simp only [List.length_append, List.length_cons, List.length_nil]; omega, fin_same hR⟩
end
end Go.Sv
