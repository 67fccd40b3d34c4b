/- Package unified, printing: a hunk's text, a file's text: what the program and the document's answer answer. -/
import Derived.Test.YtebgkjjbbnbnlaaGreatDoorUnD
import Derived.Test.YtebgkjjbbnbnlaaGreatDoorHl
set_option linter.unusedVariables false
set_option linter.unusedSimpArgs false
set_option maxRecDepth 100000
namespace Go.Sv
section
open Go Go.RowKit
theorem flat_rows_len : ∀ l : List Row, (l.flatMap rowF1).length ≤ 31 * pvBs (l.map rowP)
  | [] => by simp
  | r :: l => by
    have ih := flat_rows_len l
    have := rowF1_len r
    simp only [List.flatMap_cons, List.length_append, List.map_cons, pvBs, pvB]
    omega
theorem headF_len {h : Hnk} (hv : validF h = true) (ok : HnkOK h) : (headF h).length ≤ 100 + h.head.length := by
  obtain ⟨_, f1, f2, f3, f4, f5, f6⟩ := validF_facts hv (Nat.le_trans ok.rows (by decide))
  have e1 := spanF_len (a := h.a) (n := h.n) f5 ok.a.2 f1 (by omega)
  have e2 := spanF_len (a := h.b) (n := h.m) f6 ok.b.2 f3 (by omega)
  unfold headF
  split
  · simp only [List.length_append, List.length_cons, List.length_nil]; omega
  · simp only [List.length_append, List.length_cons, List.length_nil]; omega
theorem hunkF_len {h : Hnk} (hv : validF h = true) (ok : HnkOK h) : (hunkF h).length ≤ 150 * pvB (hnkP h) := by
  have e1 := headF_len hv ok
  have e2 := flat_rows_len h.rows
  simp only [hunkF, List.length_append, List.length_cons, List.length_nil, pvB, pvBs]
  omega
def printF (p s p' s' : List UInt8) (l : List Hnk) : List UInt8 := (((([45, 45, 45, 32] ++ shownF p s) ++ [10, 43, 43, 43, 32]) ++ shownF p' s') ++ [10]) ++ l.flatMap hunkF
def inOrd : List Hnk → Bool
  | g :: h :: r => ordB g h && inOrd (h :: r)
  | _ => true
def faultN (p s p' s' : List UInt8) (l : List Hnk) : Int :=
  if (nameOKB p s && nameOKB p' s') = false then 110 else if l.all validF = false then 100 else if inOrd l = false then 112 else 0
end
section
open Go Go.RowKit Go.Proofs
variable {w0 : Base} {σ : Store} {R : AV → Store → Prop}
abbrev tyB : TypeId := 58
def hunkOut (h : Hnk) : AV := .tup [.pv (.str (if validF h = true then hunkF h else [])), vErr (validF h)]
theorem hrows_loop (h : Hnk) (xs : List PV) (hx : xs.length ≤ 1048576) (v : AV) : ∀ (r : List Row) (k : Nat) (acc : List UInt8), xs.drop k = r.map rowP → (∀ x ∈ r, x.t.length ≤ 1048576) → (∀ x ∈ r, x.k = 1 ∨ x.k = 2 ∨ x.k = 3) →
    acc.length + (r.flatMap rowF1).length ≤ 140737488355328 → v = .tup [.pv (.str (acc ++ r.flatMap rowF1)), .pv (.raw .nilIface)] →
    unified_Hunk.n26 (unified_Hunk.X w0 0) w0 0 (fun r' _ => r' = v) [.cells 39 (hnkC h), .bld tyB 5 acc] (.ptr 1 0) (.pv (.sl xs)) xs.length k
  | [], k, acc, hd, _, _, _, hv => by
    have hk := drop_end hd
    refine unified_Hunk.n26_in ?_
    rw [unified_Hunk.b27_eq, condB_decide, if_neg (by omega)]
    refine unified_Hunk.n58_in ?_
    rw [unified_Hunk.b58_eq]
    refine String_spec rfl (isS_in (fin_keep (Nat.zero_le _) ?_))
    rw [hv]; simp
  | c :: r, k, acc, hd, ht, hK, hl, hv => by
    obtain ⟨h1, h2, hk⟩ := drop_facts hd
    have hc := ht c (by simp)
    have hkc := hK c (by simp)
    simp only [List.flatMap_cons, List.length_append] at hl
    have ih := fun acc' => hrows_loop h xs hx v r (k + 1) acc' h2 (fun x hx => ht x (List.mem_cons_of_mem _ hx)) (fun x hx => hK x (List.mem_cons_of_mem _ hx))
    have next : ∀ s, s = acc ++ rowF1 c → unified_Hunk.n57 (unified_Hunk.X w0 0) w0 0 (fun r' _ => r' = v) [.cells 39 (hnkC h), .bld tyB 5 s, .cells 51 [.pv (.int .i64 c.k), .pv (.str c.t)]] (.ptr 1 0) (.pv (.sl xs)) xs.length k := by
      rintro s rfl
      refine unified_Hunk.n57_in ?_
      rw [unified_Hunk.b57_eq, wrap_next hk (by omega)]
      refine unified_Hunk.n26_weak (EWeak.drop (τ := [.cells 39 (hnkC h), .bld tyB 5 (acc ++ rowF1 c)]) glob0 (Nat.zero_le _) rfl rfl) ?_
      exact ih _ (by simp only [List.length_append]; omega) (by rw [hv, List.flatMap_cons, List.append_assoc])
    have key : ∀ m, m = markF c.k → unified_Hunk.n50 (unified_Hunk.X w0 0) w0 0 (fun r' _ => r' = v) [.cells 39 (hnkC h), .bld tyB 5 (acc ++ m), .cells 51 [.pv (.int .i64 c.k), .pv (.str c.t)]] (.ptr 1 0) (.ptr 2 0) (.pv (.sl xs)) xs.length k := by
      rintro m rfl
      have hm : (markF c.k).length = 1 := by unfold markF; split <;> (try split) <;> rfl
      have hr : (rowF1 c).length = 1 + (tailF c.t).length := by simp only [rowF1, List.length_append, hm]
      have ht1 : (tailF c.t).length = if wholeB c.t = true then c.t.length else c.t.length + 29 := by
        unfold tailF; split
        · rfl
        · simp only [List.length_append, List.length_cons, List.length_nil, missS]
      refine unified_Hunk.n50_in ?_
      rw [unified_Hunk.b50_eq]
      repeat ((with_reducible first | apply opt_in | apply wI | apply wT | apply wP | apply wS | apply wB); exact rfl)
      refine WriteString_spec (id := 1) rfl (by simp only [List.length_append, hm]; split at ht1 <;> omega) ?_
      repeat ((with_reducible first | apply opt_in | apply wI | apply wT | apply wP | apply wS | apply wB); exact rfl)
      refine whole_spec (by omega) (isB_in ?_)
      rw [condB_not]
      refine condB_split (fun g => next _ ?_) (fun g => ?_)
      · rw [rowF1, tailF, if_pos g, List.append_assoc]
      · rw [if_neg (by rw [g]; decide)] at ht1
        refine WriteString_spec (id := 1) rfl (by simp only [List.length_append, List.length_cons, List.length_nil, hm]; omega) ?_
        refine next _ ?_
        rw [rowF1, tailF, if_neg (by rw [g]; decide)]
        simp [missS]
    refine unified_Hunk.n26_in ?_
    rw [unified_Hunk.b27_eq, condB_decide, if_pos (by omega)]
    refine opt_in (idx_ro tab51 h1 rfl) ?_
    repeat ((with_reducible first | apply opt_in | apply wI | apply wT | apply wP | apply wS | apply wB); exact rfl)
    have hr := rowF1_len c
    have hr1 : 1 ≤ (rowF1 c).length := by
      simp only [rowF1, List.length_append]
      have : (markF c.k).length = 1 := by unfold markF; split <;> (try split) <;> rfl
      omega
    rw [condB_ibeq]
    refine ite_split (fun g => ?_) (fun g => ?_)
    · refine WriteString_spec (id := 1) rfl (by simp only [List.length_cons, List.length_nil]; omega) (key _ ?_)
      rw [markF, if_pos g]
    · rw [condB_ibeq]
      refine ite_split (fun g2 => ?_) (fun g2 => ?_)
      · refine WriteString_spec (id := 1) rfl (by simp only [List.length_cons, List.length_nil]; omega) (key _ ?_)
        rw [markF, if_neg g, if_pos g2]
      · refine WriteString_spec (id := 1) rfl (by simp only [List.length_cons, List.length_nil]; omega) (key _ ?_)
        rw [markF, if_neg g, if_neg g2]
theorem hunkOut_under (h : Hnk) : AV.under 0 (hunkOut h) = true := by unfold hunkOut vErr; split <;> rfl
theorem Hunk_spec (L : Laid w0.w) {h : Hnk} (ok : HnkOK h) (hB : pvB (hnkP h) ≤ 8388608) (hR : R (hunkOut h) σ) : SCalls (cx w0) unified_Hunk.id [.pv (hnkP h)] σ R := by
  refine SCalls.alone L rfl (fun w1 L1 => ?_) (hunkOut_under h) hR
  refine unified_Hunk.calls ?_
  rw [unified_Hunk.b0_eq]
  refine ⟨rfl, ?_⟩
  repeat ((with_reducible first | apply opt_in | apply wI | apply wT | apply wP | apply wS | apply wB); exact rfl)
  refine Valid_spec L1 (Nat.le_trans ok.rows (by decide)) (fun x hx => Nat.le_trans (ok.text x hx) (by decide)) (Nat.le_trans ok.head (by decide)) ok.a ok.b ?_
  cases hv : validF h with
  | false =>
    rw [vErr, if_neg (by decide), neq_raw]
    refine opt_in rfl (opt_in (v := false) rfl (isB_in ?_))
    refine condB_split (fun _ => ?_) (fun h => absurd h (by decide))
    repeat ((with_reducible first | apply opt_in | apply wI | apply wT | apply wP | apply wS | apply wB); exact rfl)
    refine fin_keep (Nat.zero_le _) ?_
    unfold hunkOut
    rw [hv]; rfl
  | true =>
    rw [vErr, if_pos rfl, neq_raw]
    refine opt_in rfl (opt_in (v := true) rfl (isB_in ?_))
    refine condB_split (fun h => absurd h (by decide)) (fun _ => ?_)
    obtain ⟨v1, f1, f2, f3, f4, f5, f6⟩ := validF_facts hv (Nat.le_trans ok.rows (by decide))
    have e1 := spanF_len (a := h.a) (n := h.n) f5 ok.a.2 f1 (by omega)
    have e2 := spanF_len (a := h.b) (n := h.m) f6 ok.b.2 f3 (by omega)
    have e3 := hunkF_len hv ok
    have e4 := ok.head
    have fin : ∀ s, s = headF h → unified_Hunk.n20 (unified_Hunk.X w1 0) w1 0 (fun r' _ => r' = hunkOut h) [.cells 39 (hnkC h), .bld tyB 5 s] (.ptr 0 0) (.ptr 1 0) := by
      rintro s rfl
      have e5 := headF_len hv ok
      refine unified_Hunk.n20_in ?_
      rw [unified_Hunk.b20_eq]
      refine WriteString_spec (id := 1) rfl (by simp only [List.length_cons, List.length_nil]; omega) ?_
      repeat ((with_reducible first | apply opt_in | apply wI | apply wT | apply wP | apply wS | apply wB); exact rfl)
      have := hrows_loop (w0 := w1) h (h.rows.map rowP) (by rw [List.length_map]; exact ok.rows) (hunkOut h) h.rows 0 (headF h ++ [10]) rfl ok.text (rowsF_kinds _ _ _ _ v1) (by
        simp only [hunkF, List.length_append, List.length_cons, List.length_nil] at e3 ⊢; omega) (by
        unfold hunkOut; rw [hv]; rfl)
      exact this
    repeat ((with_reducible first | apply opt_in | apply wI | apply wT | apply wP | apply wS | apply wB); exact rfl)
    refine span_spec L1 f5 ok.a.2 f1 (by omega) (isS_in ⟨rfl, rfl, ?_⟩)
    refine ⟨by simp only [List.length_cons, List.length_nil]; omega, by simp only [List.length_append, List.length_cons, List.length_nil]; omega, ?_⟩
    refine span_spec L1 f6 ok.b.2 f3 (by omega) (isS_in ?_)
    refine ⟨by simp only [List.length_append, List.length_cons, List.length_nil]; omega, by simp only [List.length_append, List.length_cons, List.length_nil]; omega, ?_⟩
    refine WriteString_spec (id := 1) rfl (by simp only [List.length_append, List.length_cons, List.length_nil]; omega) ?_
    repeat ((with_reducible first | apply opt_in | apply wI | apply wT | apply wP | apply wS | apply wB); exact rfl)
    rw [condB_not, condB_sbeq]
    refine ite_split (fun g => fin _ ?_) (fun g => ?_)
    · rw [headF, if_pos g]; simp
    · repeat ((with_reducible first | apply opt_in | apply wI | apply wT | apply wP | apply wS | apply wB); exact rfl)
      refine ⟨by simp only [List.length_cons, List.length_nil]; omega, ?_⟩
      refine WriteString_spec (id := 1) rfl (by simp only [List.length_append, List.length_cons, List.length_nil]; omega) (fin _ ?_)
      rw [headF, if_neg g]; simp
theorem conv_str {s : List UInt8} (hl : s.length ≤ 140737488355328) : aConvert σ tabS ti9.td ti56.td (.pv (.str s)) = some (.arr σ.length s.length 0 s.length, σ ++ [.arr 1 (bytesPV s) false]) := by
  show (if roomy s.length 1 then _ else _) = _
  rw [if_pos ⟨hl, by omega⟩]
end
end Go.Sv
