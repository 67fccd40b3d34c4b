/- What the code of package context answers where it prints: a part, a hunk, a file's hunks. -/
import Derived.Test.YtebgkjjbbnbnlaaGreatDoorCxB
import Derived.Test.YtebgkjjbbnbnlaaGreatDoorUnG
import Derived.Test.YtebgkjjbbnbnlaaGreatDoorUnN
set_option linter.unusedVariables false
set_option linter.unusedSimpArgs false
set_option maxRecDepth 100000
namespace Go.Sv
section
open Go Go.RowKit Go.Proofs
variable {w0 : Base} {σ : Store} {R : AV → Store → Prop}
theorem partL_len (kd : Int) : ∀ (l : List Row) (m : List UInt8), (partL kd l m).length ≤ 33 * pvBs (l.map rowP)
  | [], m => by simp [partL]
  | r :: l, [] => by simp [partL]
  | r :: l, c :: m => by
    have ih := partL_len kd l m
    have ht : (tailF r.t).length ≤ r.t.length + 29 := by
      unfold tailF; split
      · omega
      · simp only [List.length_append, List.length_cons, List.length_nil, missS]; omega
    simp only [List.map_cons, pvBs, pvB, partL, List.length_append]
    split
    · simp only [List.length_cons]; omega
    · simp only [List.length_nil]; omega
theorem partF_len (kd : Int) (l : List Row) (m : List UInt8) : (partF kd l m).length ≤ 33 * pvBs (l.map rowP) := by
  have := partL_len kd l m
  unfold partF; split
  · exact this
  · simp
abbrev ptS (C : Hnk) (acc : List UInt8) : Store := [.cells 39 (hnkC C), .bld tyB 5 acc]
theorem any_loop {C : Hnk} {acc m : List UInt8} (l : List Row) (hl : l.length ≤ 1048576) (kd : Int) (next : context_part.n19 (context_part.X w0 2) w0 2 R (ptS C acc) (.ptr 1 0) (.pv (rowsP l)) (.pv (.sl (bytesPV m))) kd (anyK kd l)) : ∀ (r : List Row) (k : Nat) (a : Bool), l.drop k = r → (a || anyK kd r) = anyK kd l →
    context_part.n6 (context_part.X w0 2) w0 2 R (ptS C acc) (.ptr 1 0) (.pv (rowsP l)) (.pv (.sl (bytesPV m))) kd a (.pv (rowsP l)) l.length k
  | [], k, a, hd, ha => by
    have hk := drop_end hd
    refine context_part.n6_in ?_
    rw [context_part.b7_eq, condB_decide, if_neg (by omega)]
    have : a = anyK kd l := by rw [← ha]; simp [anyK]
    rw [this]; exact next
  | c :: r, k, a, hd, ha => by
    obtain ⟨h1, h2, hk⟩ := drop_facts hd
    have hg : (l.map rowP)[k]? = some (rowP c) := by rw [List.getElem?_map, h1]; rfl
    have h18 : ∀ a', (a' || anyK kd r) = anyK kd l → context_part.n18 (context_part.X w0 2) w0 2 R (ptS C acc ++ [.cells 51 [.pv (.int .i64 c.k), .pv (.str c.t)]]) (.ptr 1 0) (.pv (rowsP l)) (.pv (.sl (bytesPV m))) kd a' (.pv (rowsP l)) l.length k := by
      intro a' ha'
      refine context_part.n18_in ?_
      rw [context_part.b18_eq, wrap_next hk (by omega)]
      refine context_part.n6_weak (EWeak.drop (τ := ptS C acc) glob0 (Nat.le_of_ble_eq_true rfl) rfl rfl) ?_
      exact any_loop l hl kd next r (k + 1) a' h2 ha'
    refine context_part.n6_in ?_
    rw [context_part.b7_eq, condB_decide, if_pos (by omega)]
    refine opt_in (idx_ro tab51 hg rfl) ?_
    repeat ((with_reducible first | apply opt_in | apply wI | apply wT | apply wP | apply wS | apply wB); exact rfl)
    refine condB_split (fun g => ?_) (fun g => ?_)
    · generalize hb : true = b
      refine h18 b ?_
      rw [← ha, g, ← hb]; simp
    · repeat ((with_reducible first | apply opt_in | apply wI | apply wT | apply wP | apply wS | apply wB); exact rfl)
      refine h18 _ ?_
      rw [← ha, g]; simp [anyK]
theorem put_loop {C : Hnk} (l : List Row) (hl : l.length ≤ 1048576) (ht : ∀ x ∈ l, x.t.length ≤ 1048576) (kd : Int) (any : Bool) (m : List UInt8) (hm : m.length = l.length) : ∀ (r : List Row) (k : Nat) (acc : List UInt8), l.drop k = r →
    acc.length + (partL kd r (m.drop k)).length ≤ 140737488355328 → R (.tup []) (ptS C (acc ++ if any = true then partL kd r (m.drop k) else [])) →
    context_part.n22 (context_part.X w0 2) w0 2 R (ptS C acc) (.ptr 1 0) (.pv (.sl (bytesPV m))) kd any (.pv (rowsP l)) l.length k
  | [], k, acc, hd, _, hR => by
    have hk := drop_end hd
    refine context_part.n22_in ?_
    rw [context_part.b23_eq, condB_decide, if_neg (by omega)]
    refine fin_keep (Nat.le_of_ble_eq_true rfl) ?_
    have e : partL kd [] (m.drop k) = [] := by cases m.drop k <;> rfl
    rw [e] at hR; simpa using hR
  | c :: r, k, acc, hd, hB, hR => by
    obtain ⟨h1, h2, hk⟩ := drop_facts hd
    have hg : (l.map rowP)[k]? = some (rowP c) := by rw [List.getElem?_map, h1]; rfl
    have hc := ht c (List.mem_of_getElem? h1)
    obtain ⟨b, hmb⟩ : ∃ b, m[k]? = some b := ⟨m[k]'(by omega), List.getElem?_eq_getElem (by omega)⟩
    have hmg : (bytesPV m)[k]? = some (.int .u8 b.toNat) := by unfold bytesPV; rw [List.getElem?_map, hmb]; rfl
    have hmd : m.drop k = b :: m.drop (k + 1) := drop_consx hmb
    rw [hmd, partL] at hB hR
    have h48 : ∀ acc', acc'.length + (partL kd r (m.drop (k + 1))).length ≤ 140737488355328 → R (.tup []) (ptS C (acc' ++ if any = true then partL kd r (m.drop (k + 1)) else [])) → context_part.n48 (context_part.X w0 2) w0 2 R (ptS C acc' ++ [.cells 51 [.pv (.int .i64 c.k), .pv (.str c.t)]]) (.ptr 1 0) (.pv (.sl (bytesPV m))) kd any (.pv (rowsP l)) l.length k := by
      intro acc' hB' hR'
      refine context_part.n48_in ?_
      rw [context_part.b48_eq, wrap_next hk (by omega)]
      refine context_part.n22_weak (EWeak.drop (τ := ptS C acc') glob0 (Nat.le_of_ble_eq_true rfl) rfl rfl) ?_
      exact put_loop l hl ht kd any m hm r (k + 1) acc' h2 hB' hR'
    have h36 : ∀ t, t = !(any && decide (c.k = 1 ∨ c.k = kd)) → context_part.n36 (context_part.X w0 2) w0 2 R (ptS C acc ++ [.cells 51 [.pv (.int .i64 c.k), .pv (.str c.t)]]) (.ptr 1 0) (.pv (.sl (bytesPV m))) kd any (k : Int) (.ptr 2 0) (.pv (rowsP l)) l.length k t := by
      intro t htt
      refine context_part.n36_in ?_
      rw [context_part.b36_eq]
      refine condB_split (fun g => ?_) (fun g => ?_)
      · refine h48 acc ?_ ?_
        · simp only [List.length_append] at hB; omega
        · rw [g] at htt
          cases ha : any with
          | false => rw [ha] at hR; exact hR
          | true =>
            rw [ha, Bool.true_and] at htt
            have : ¬ (c.k = 1 ∨ c.k = kd) := by simpa using htt
            rw [ha, if_pos rfl, if_neg this, List.nil_append] at hR
            simpa using hR
      · rw [g] at htt
        have h3 : any = true ∧ (c.k = 1 ∨ c.k = kd) := by
          have h4 : (any && decide (c.k = 1 ∨ c.k = kd)) = true := by
            cases hh : (any && decide (c.k = 1 ∨ c.k = kd)) with
            | true => rfl
            | false => rw [hh] at htt; cases htt
          rw [Bool.and_eq_true, decide_eq_true_eq] at h4
          exact h4
        rw [if_pos h3.2] at hB hR
        rw [h3.1, if_pos rfl] at hR
        simp only [List.length_append, List.length_cons] at hB
        have hlt : (tailF c.t).length = if wholeB c.t = true then c.t.length else c.t.length + 29 := by
          unfold tailF; split
          · rfl
          · simp only [List.length_append, List.length_cons, List.length_nil, missS]
        refine opt_in (idx_ro tab5 hmg rfl) ?_
        repeat ((with_reducible first | apply opt_in | apply wI | apply wT | apply wP | apply wS | apply wB); exact rfl)
        refine WriteByte_spec (id := 1) rfl (by omega) ?_
        repeat ((with_reducible first | apply opt_in | apply wI | apply wT | apply wP | apply wS | apply wB); exact rfl)
        refine ⟨by simp only [List.length_singleton]; omega, ?_⟩
        refine WriteString_spec (id := 1) rfl (by simp only [List.length_append, List.length_singleton]; split at hlt <;> omega) ?_
        repeat ((with_reducible first | apply opt_in | apply wI | apply wT | apply wP | apply wS | apply wB); exact rfl)
        refine whole_spec (by omega) (isB_in ?_)
        rw [condB_not]
        refine condB_split (fun g2 => ?_) (fun g2 => ?_)
        · rw [if_pos g2] at hlt
          have et : tailF c.t = c.t := by unfold tailF; rw [if_pos g2]
          refine h48 ((acc ++ [b]) ++ ([32] ++ c.t)) (by simp only [List.length_append, List.length_singleton]; omega) ?_
          rw [h3.1, if_pos rfl]
          rw [et] at hR
          simpa using hR
        · rw [if_neg (by rw [g2]; decide)] at hlt
          have et : tailF c.t = (c.t ++ [10]) ++ missS := by unfold tailF; rw [if_neg (by rw [g2]; decide)]
          refine WriteString_spec (id := 1) rfl (by simp only [List.length_append, List.length_cons, List.length_nil]; omega) ?_
          refine h48 (((acc ++ [b]) ++ ([32] ++ c.t)) ++ (10 :: missS)) (by simp only [List.length_append, List.length_cons, List.length_nil, missS]; omega) ?_
          rw [h3.1, if_pos rfl]
          rw [et] at hR
          simpa using hR
    refine context_part.n22_in ?_
    rw [context_part.b23_eq, condB_decide, if_pos (by omega)]
    refine opt_in (idx_ro tab51 hg rfl) ?_
    repeat ((with_reducible first | apply opt_in | apply wI | apply wT | apply wP | apply wS | apply wB); exact rfl)
    rw [condB_not]
    refine condB_split (fun g => ?_) (fun g => ?_)
    · repeat ((with_reducible first | apply opt_in | apply wI | apply wT | apply wP | apply wS | apply wB); exact rfl)
      rw [condB_ibne]
      refine ite_split (fun g2 => ?_) (fun g2 => ?_)
      · generalize hb : false = b'
        refine h36 b' ?_
        rw [← hb, g, decide_eq_true (.inl g2)]; rfl
      · repeat ((with_reducible first | apply opt_in | apply wI | apply wT | apply wP | apply wS | apply wB); exact rfl)
        refine h36 _ ?_
        rw [g, Bool.true_and]
        have : (c.k = 1 ∨ c.k = kd) ↔ c.k = kd := ⟨fun e => e.resolve_left g2, .inr⟩
        rw [decide_eq_decide.2 this]
        cases he : decide (c.k = kd) with
        | true => have := of_decide_eq_true he; simp [this]
        | false => have := of_decide_eq_false he; simp [this]
    · generalize hb : true = b'
      refine h36 b' ?_
      rw [← hb, g]; rfl
theorem part_spec {C : Hnk} {l : List Row} {kd : Int} {m acc : List UInt8} (hl : l.length ≤ 1048576) (ht : ∀ x ∈ l, x.t.length ≤ 1048576) (hm : m.length = l.length) (hB : acc.length + (partL kd l m).length ≤ 140737488355328) (hR : R (.tup []) (ptS C (acc ++ partF kd l m))) :
    SCalls (cx w0) context_part.id [.ptr 1 0, .pv (rowsP l), .pv (.sl (bytesPV m)), .pv (.int .i64 kd)] (ptS C acc) R := by
  refine context_part.calls ?_
  rw [context_part.b0_eq]
  repeat ((with_reducible first | apply opt_in | apply wI | apply wT | apply wP | apply wS | apply wB); exact rfl)
  rw [List.length_map]
  generalize hb : false = b
  have h19 : context_part.n19 (context_part.X w0 2) w0 2 R (ptS C acc) (.ptr 1 0) (.pv (rowsP l)) (.pv (.sl (bytesPV m))) kd (anyK kd l) := by
    refine context_part.n19_in ?_
    rw [context_part.b19_eq]
    repeat ((with_reducible first | apply opt_in | apply wI | apply wT | apply wP | apply wS | apply wB); exact rfl)
    rw [List.length_map]
    exact put_loop l hl ht kd (anyK kd l) m hm l 0 acc rfl hB hR
  exact any_loop l hl kd h19 l 0 b rfl (by rw [← hb]; simp)
end
end Go.Sv
