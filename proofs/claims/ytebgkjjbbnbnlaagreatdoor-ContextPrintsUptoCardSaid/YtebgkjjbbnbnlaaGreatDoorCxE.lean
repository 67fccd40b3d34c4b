/- The document's answer for a context diff's text: what it answers. -/
import Derived.Test.YtebgkjjbbnbnlaaGreatDoorCxD
import Derived.Test.YtebgkjjbbnbnlaaGreatDoorCxR
import Derived.Test.YtebgkjjbbnbnlaaGreatDoorUnH
set_option linter.unusedVariables false
set_option linter.unusedSimpArgs false
set_option maxRecDepth 100000
namespace Go.Sv
section
open Go Go.RowKit Go.Proofs
variable {w0 : Base} {σ : Store} {R : AV → Store → Prop}
theorem rcspan_spec (L : Laid w0.w) {a n : Int} (h0 : 0 ≤ a) (h1 : a ≤ 2147483647) (h2 : 0 ≤ n) (h3 : n ≤ 2147483647) (hR : R (.pv (.str (spanC a n))) σ) : SCalls (cx w0) selvageref12_span.id [.pv (.int .i64 a), .pv (.int .i64 n)] σ R := by
  refine SCalls.alone L rfl (fun w1 L1 => ?_) rfl hR
  have e1 := itoa_len (n := a) h0 (by omega)
  refine selvageref12_span.calls ?_
  rw [selvageref12_span.b0_eq, condB_decide]
  refine ite_split (fun g => ?_) (fun g => ?_)
  · refine Digits_spec (by omega) (by omega) (isS_in (fin_keep (Nat.zero_le _) ?_))
    rw [spanC, if_pos g]
  · have e2 := itoa_len (n := a + n - 1) (by omega) (by omega)
    refine Digits_spec (by omega) (by omega) (isS_in ⟨by simp only [List.length_singleton]; omega, ?_⟩)
    rw [wrap_i64 (n := a + n) (by omega) (by omega), wrap_i64 (by omega) (by omega)]
    refine Digits_spec (by omega) (by omega) (isS_in ⟨by simp only [List.length_append, List.length_singleton]; omega, fin_keep (Nat.zero_le _) ?_⟩)
    rw [spanC, if_neg g]
abbrev isS4 (o f : Bool) : Store := [.cells 173 [.pv (.bool false), .pv (.bool false), .pv (.bool o), .pv (.bool f)]]
theorem both_end (o f : Bool) (v : AV) (hv : v = .pv (.bool (o && f))) : selvageref12_both.n32 (selvageref12_both.X w0 0) w0 0 (fun r' _ => r' = v) (isS4 o f) (.ptr 0 0) := by
  refine selvageref12_both.n32_in ?_
  rw [selvageref12_both.b32_eq]
  repeat ((with_reducible first | apply opt_in | apply wI | apply wT | apply wP | apply wS | apply wB); exact rfl)
  have h34 : ∀ t, t = (o && f) → selvageref12_both.n34 (selvageref12_both.X w0 0) w0 0 (fun r' _ => r' = v) (isS4 o f) t := by
    intro t ht
    refine selvageref12_both.n34_in ?_
    rw [selvageref12_both.b34_eq, ht]
    exact fin_keep (Nat.zero_le _) hv.symm
  refine condB_split (fun g => ?_) (fun g => ?_)
  · repeat ((with_reducible first | apply opt_in | apply wI | apply wT | apply wP | apply wS | apply wB); exact rfl)
    exact h34 _ (by rw [g]; rfl)
  · generalize hb : false = b
    exact h34 b (by rw [g, ← hb]; rfl)
theorem both_fwd (l : List Row) (hl : l.length ≤ 1048576) (v : AV) : ∀ (r : List Row) (i : Nat) (o f : Bool), l.drop i = r → (∀ x ∈ r, x.k = 1 ∨ x.k = 2 ∨ x.k = 3) → v = .pv (.bool ((o || runHas 2 r) && (f || runHas 3 r))) →
    selvageref12_both.n21 (selvageref12_both.X w0 0) w0 0 (fun r' _ => r' = v) (isS4 o f) (.pv (rowsP l)) (.ptr 0 0) i
  | [], i, o, f, hd, _, hv => by
    have hk := drop_end hd
    refine selvageref12_both.n21_in ?_
    rw [selvageref12_both.b22_eq]
    repeat ((with_reducible first | apply opt_in | apply wI | apply wT | apply wP | apply wS | apply wB); exact rfl)
    rw [condB_decide, if_neg (by rw [List.length_map]; omega)]
    generalize hb : false = b
    refine selvageref12_both.n25_in ?_
    rw [selvageref12_both.b25_eq, ← hb, condB_false']
    exact both_end o f v (by rw [hv]; simp [runHas])
  | c :: r, i, o, f, hd, hK, hv => by
    obtain ⟨h1, h2, hk⟩ := drop_facts hd
    have hg : (l.map rowP)[i]? = some (rowP c) := by rw [List.getElem?_map, h1]; rfl
    have idx : ∀ σ, aIndexAddr σ tabS ti37.td (.pv (rowsP l)) (i : Int) = some (.ro (rowP c) 0) := fun σ => idx_ro tab51 hg rfl
    have hkc := hK c (by simp)
    have ih := fun o' f' => both_fwd l hl v r (i + 1) o' f' h2 (fun x hx => hK x (List.mem_cons_of_mem _ hx))
    have h25 : ∀ t, t = (c.k != 1) → selvageref12_both.n25 (selvageref12_both.X w0 0) w0 0 (fun r' _ => r' = v) (isS4 o f) (.pv (rowsP l)) (.ptr 0 0) i t := by
      intro t ht
      refine selvageref12_both.n25_in ?_
      rw [selvageref12_both.b25_eq]
      refine condB_split (fun g => ?_) (fun g => ?_)
      · have hne : c.k ≠ 1 := by rw [g] at ht; simpa using ht.symm
        refine opt_in (idx _) ?_
        repeat ((with_reducible first | apply opt_in | apply wI | apply wT | apply wP | apply wS | apply wB); exact rfl)
        rw [wrap_next hk (by omega)]
        rcases hkc with hk1 | hk1 | hk1
        · exact absurd hk1 hne
        · rw [hk1]
          refine opt_in (v := .ptr 0 2) rfl ?_
          generalize hb : true = b
          refine opt_in (v := isS4 b f) rfl (ih b f ?_)
          rw [hv, ← hb, runHas, runHas, if_neg hne, if_neg hne, hk1]; simp
        · rw [hk1]
          refine opt_in (v := .ptr 0 3) rfl ?_
          generalize hb : true = b
          refine opt_in (v := isS4 o b) rfl (ih o b ?_)
          rw [hv, ← hb, runHas, runHas, if_neg hne, if_neg hne, hk1]; simp
      · have h1 : c.k = 1 := by rw [g] at ht; simpa using ht.symm
        exact both_end o f v (by rw [hv, runHas, runHas, if_pos h1, if_pos h1]; simp)
    refine selvageref12_both.n21_in ?_
    rw [selvageref12_both.b22_eq]
    repeat ((with_reducible first | apply opt_in | apply wI | apply wT | apply wP | apply wS | apply wB); exact rfl)
    rw [condB_decide, if_pos (by rw [List.length_map]; omega)]
    refine opt_in (idx _) ?_
    repeat ((with_reducible first | apply opt_in | apply wI | apply wT | apply wP | apply wS | apply wB); exact rfl)
    exact h25 _ rfl
theorem both_back (l : List Row) (hl : l.length ≤ 1048576) (hK : ∀ x ∈ l, x.k = 1 ∨ x.k = 2 ∨ x.k = 3) (v : AV) : ∀ (i : Nat), i ≤ l.length → v = .pv (.bool (bothF l i)) →
    selvageref12_both.n6 (selvageref12_both.X w0 0) w0 0 (fun r' _ => r' = v) [] (.pv (rowsP l)) i := by
  have go : ∀ i : Nat, startF l i = i → v = .pv (.bool (bothF l i)) → selvageref12_both.n15 (selvageref12_both.X w0 0) w0 0 (fun r' _ => r' = v) [] (.pv (rowsP l)) i := by
    intro i hs hv
    refine selvageref12_both.n15_in ?_
    rw [selvageref12_both.b15_eq]
    repeat ((with_reducible first | apply opt_in | apply wI | apply wT | apply wP | apply wS | apply wB); exact rfl)
    refine both_fwd l hl v (l.drop i) i false false rfl (fun x hx => hK x (List.mem_of_mem_drop hx)) ?_
    rw [hv, bothF, hs]; simp
  intro i
  induction i with
  | zero =>
    intro _ hv
    refine selvageref12_both.n6_in ?_
    rw [selvageref12_both.b7_eq, condB_decide, if_neg (by omega)]
    generalize hb : false = b
    refine selvageref12_both.n10_in ?_
    rw [selvageref12_both.b10_eq, ← hb, condB_false']
    exact go 0 rfl hv
  | succ i ih =>
    intro hi hv
    have hg1 : l[i]? = some l[i] := List.getElem?_eq_getElem (by omega)
    have hg : (l.map rowP)[i]? = some (rowP l[i]) := by rw [List.getElem?_map, hg1]; rfl
    have wi : IntKind.wrap .i64 (((i + 1 : Nat) : Int) - 1) = (i : Int) := by rw [wrap_i64 (by omega) (by omega)]; omega
    have h10 : ∀ t, t = (l[i].k != 1) → selvageref12_both.n10 (selvageref12_both.X w0 0) w0 0 (fun r' _ => r' = v) [] (.pv (rowsP l)) ((i + 1 : Nat) : Int) t := by
      intro t ht
      refine selvageref12_both.n10_in ?_
      rw [selvageref12_both.b10_eq]
      refine condB_split (fun g => ?_) (fun g => ?_)
      · have hne : l[i].k ≠ 1 := by rw [g] at ht; simpa using ht.symm
        rw [wi]
        refine ih (by omega) ?_
        have : startF l (i + 1) = startF l i := by rw [startF, hg1]; simp [hne]
        rw [hv, bothF, bothF, this]
      · have h1 : l[i].k = 1 := by rw [g] at ht; simpa using ht.symm
        exact go (i + 1) (by rw [startF, hg1]; simp [h1]) hv
    refine selvageref12_both.n6_in ?_
    rw [selvageref12_both.b7_eq, condB_decide, if_pos (by omega), wi]
    refine opt_in (idx_ro tab51 hg rfl) ?_
    repeat ((with_reducible first | apply opt_in | apply wI | apply wT | apply wP | apply wS | apply wB); exact rfl)
    exact h10 _ rfl
theorem both_spec (L : Laid w0.w) {l : List Row} {i : Nat} (hl : l.length ≤ 1048576) (hK : ∀ x ∈ l, x.k = 1 ∨ x.k = 2 ∨ x.k = 3) (hi : i ≤ l.length) (hR : R (.pv (.bool (bothF l i))) σ) : SCalls (cx w0) selvageref12_both.id [.pv (rowsP l), .pv (.int .i64 (i : Int))] σ R := by
  refine SCalls.alone L rfl (fun w1 L1 => ?_) rfl hR
  refine selvageref12_both.calls ?_
  rw [selvageref12_both.b0_eq]
  exact both_back l hl hK _ i hi rfl
theorem rpart_loop (L : Laid w0.w) (l : List Row) (hl : l.length ≤ 1048576) (ht : ∀ x ∈ l, x.t.length ≤ 1048576) (hK : ∀ x ∈ l, x.k = 1 ∨ x.k = 2 ∨ x.k = 3) (kd : Int) (hkd : kd ≠ 1) (mk : UInt8) (v : AV) : ∀ (r : List Row) (i : Nat) (acc : List UInt8) (a : Bool), l.drop i = r →
    acc.length + 33 * pvBs (r.map rowP) ≤ 140737488355328 → v = .pv (.str (if (a || anyK kd r) = true then acc ++ partD l kd mk r i else [])) →
    selvageref12_part.n10 (selvageref12_part.X w0 0) w0 0 (fun r' _ => r' = v) (mkS acc) (.pv (rowsP l)) kd [mk, 32] (mkA acc) a i
  | [], i, acc, a, hd, _, hv => by
    have hk := drop_end hd
    refine selvageref12_part.n10_in ?_
    rw [selvageref12_part.b11_eq]
    repeat ((with_reducible first | apply opt_in | apply wI | apply wT | apply wP | apply wS | apply wB); exact rfl)
    rw [condB_decide, if_neg (by rw [List.length_map]; omega)]
    refine selvageref12_part.n40_in ?_
    rw [selvageref12_part.b40_eq, condB_not]
    have e : (a || anyK kd []) = a := by simp [anyK]
    rw [e] at hv
    refine condB_split (fun g => ?_) (fun g => ?_)
    · refine opt2_in (conv_bytes (id := 0) (acc := acc) rfl) (isS_in (fin_keep (Nat.zero_le _) ?_))
      rw [hv, if_pos g]; simp [partD]
    · refine fin_keep (Nat.zero_le _) ?_
      rw [hv, if_neg (by rw [g]; decide)]
  | c :: r, i, acc, a, hd, hB, hv => by
    obtain ⟨h1, h2, hk⟩ := drop_facts hd
    have hg : (l.map rowP)[i]? = some (rowP c) := by rw [List.getElem?_map, h1]; rfl
    have idx : ∀ σ, aIndexAddr σ tabS ti37.td (.pv (rowsP l)) (i : Int) = some (.ro (rowP c) 0) := fun σ => idx_ro tab51 hg rfl
    have hc := ht c (List.mem_of_getElem? h1)
    simp only [List.map_cons, pvBs, pvB] at hB
    have hlt : (tailF c.t).length ≤ c.t.length + 29 := by
      unfold tailF; split
      · omega
      · simp only [List.length_append, List.length_cons, List.length_nil, missS]; omega
    have h39 : ∀ acc' a', acc'.length + 33 * pvBs (r.map rowP) ≤ 140737488355328 → v = .pv (.str (if (a' || anyK kd r) = true then acc' ++ partD l kd mk r (i + 1) else [])) → selvageref12_part.n39 (selvageref12_part.X w0 0) w0 0 (fun r' _ => r' = v) (mkS acc') (.pv (rowsP l)) kd [mk, 32] (mkA acc') a' i := by
      intro acc' a' h3 h4
      refine selvageref12_part.n39_in ?_
      rw [selvageref12_part.b39_eq, wrap_next hk (by omega)]
      exact rpart_loop L l hl ht hK kd hkd mk v r (i + 1) acc' a' h2 h3 h4
    have h38 : ∀ (b : UInt8) (a' : Bool), v = .pv (.str (if (a' || anyK kd r) = true then (acc ++ [b, 32] ++ tailF c.t) ++ partD l kd mk r (i + 1) else [])) → selvageref12_part.n38 (selvageref12_part.X w0 0) w0 0 (fun r' _ => r' = v) (mkS (acc ++ [b, 32])) (.pv (rowsP l)) kd [mk, 32] (mkA (acc ++ [b, 32])) a' i := by
      intro b a' h4
      refine selvageref12_part.n38_in ?_
      rw [selvageref12_part.b38_eq]
      refine opt_in (idx _) ?_
      repeat ((with_reducible first | apply opt_in | apply wI | apply wT | apply wP | apply wS | apply wB); exact rfl)
      refine Tail_spec hc (isS_in ?_)
      refine opt2_in (append_bytes (id := 0) (acc := acc ++ [b, 32]) (s := tailF c.t) rfl rfl (by simp only [List.length_append, List.length_cons, List.length_nil]; omega)) ?_
      exact h39 (acc ++ [b, 32] ++ tailF c.t) a' (by simp only [List.length_append, List.length_cons, List.length_nil]; omega) h4
    have put : ∀ b : UInt8, aAppend (mkS acc) ti5 (mkA acc) (.pv (.str [b, 32])) = some (mkA (acc ++ [b, 32]), mkS (acc ++ [b, 32])) := fun b => append_bytes (id := 0) (s := [b, 32]) rfl rfl (by simp only [List.length_cons, List.length_nil]; omega)
    rw [partD] at hv
    refine selvageref12_part.n10_in ?_
    rw [selvageref12_part.b11_eq]
    repeat ((with_reducible first | apply opt_in | apply wI | apply wT | apply wP | apply wS | apply wB); exact rfl)
    rw [condB_decide, if_pos (by rw [List.length_map]; omega)]
    refine opt_in (idx _) ?_
    repeat ((with_reducible first | apply opt_in | apply wI | apply wT | apply wP | apply wS | apply wB); exact rfl)
    rw [condB_ibeq]
    refine ite_split (fun g => ?_) (fun g => ?_)
    · rw [if_pos g] at hv
      refine opt2_in (put 32) (h38 32 a ?_)
      have : anyK kd (c :: r) = ((c.k == kd) || anyK kd r) := rfl
      have hne : (c.k == kd) = false := beq_false_of_ne (fun e => hkd (by rw [← e, g]))
      rw [this, hne, Bool.false_or] at hv
      rw [hv]; simp
    · rw [if_neg g] at hv
      refine opt_in (idx _) ?_
      repeat ((with_reducible first | apply opt_in | apply wI | apply wT | apply wP | apply wS | apply wB); exact rfl)
      rw [condB_ibne]
      have ea : anyK kd (c :: r) = ((c.k == kd) || anyK kd r) := rfl
      rw [ea] at hv
      refine ite_split (fun g2 => ?_) (fun g2 => ?_)
      · have hn : ¬ (c.k ≠ kd) := fun e => e g2
        rw [if_neg hn, g2] at hv
        simp only [beq_self_eq_true, Bool.true_or, Bool.or_true, if_true] at hv
        refine both_spec L hl hK (by omega) (isB_in ?_)
        refine condB_split (fun g3 => ?_) (fun g3 => ?_)
        · rw [if_pos g3] at hv
          generalize hb : true = b
          refine opt2_in (put 33) (h38 33 b ?_)
          rw [hv, ← hb]; simp
        · rw [if_neg (by rw [g3]; decide)] at hv
          generalize hb : true = b
          refine opt2_in (put mk) (h38 mk b ?_)
          rw [hv, ← hb]; simp
      · rw [if_pos g2] at hv
        have hne : (c.k == kd) = false := beq_false_of_ne g2
        rw [hne] at hv
        exact h39 acc a (by omega) (by rw [hv]; simp)
theorem rpart_spec (L : Laid w0.w) {l : List Row} {kd : Int} {mk : UInt8} (hkd : kd ≠ 1) (hl : l.length ≤ 1048576) (ht : ∀ x ∈ l, x.t.length ≤ 1048576) (hK : ∀ x ∈ l, x.k = 1 ∨ x.k = 2 ∨ x.k = 3) (hB : pvBs (l.map rowP) ≤ 8388608) (hR : R (.pv (.str (if anyK kd l = true then partD l kd mk l 0 else []))) σ) :
    SCalls (cx w0) selvageref12_part.id [.pv (rowsP l), .pv (.int .i64 kd), .pv (.str [mk, 32])] σ R := by
  refine SCalls.alone L rfl (fun w1 L1 => ?_) rfl hR
  refine selvageref12_part.calls ?_
  rw [selvageref12_part.b0_eq]
  generalize hb : false = b
  refine selvageref12_part.n10_weak (l_' := .pv (rowsP l)) (kind' := kd) (mark_' := [mk, 32]) (out' := mkA []) (any' := b) (i' := 0) (τ := mkS []) (EWeak.nil (t := 7) (es := 1) rfl rfl) ?_
  exact rpart_loop L1 l hl ht hK kd hkd mk _ l 0 [] b rfl (by simp only [List.length_nil]; omega) (by rw [← hb]; simp)
theorem chunk_parts {l : List Row} : partF 2 l (marksF l.length l) = (if anyK 2 l = true then partD l 2 45 l 0 else []) ∧ partF 3 l (marksF l.length l) = (if anyK 3 l = true then partD l 3 43 l 0 else []) := by
  unfold partF
  rw [parts_same (.inl ⟨rfl, rfl⟩), parts_same (.inr ⟨rfl, rfl⟩)]
  exact ⟨rfl, rfl⟩
def chunkOutR (h : Hnk) : AV := .tup [.pv (.str (if validF h = true then chunkF h else [])), v01 (validF h)]
theorem rcHunk_spec (L : Laid w0.w) {h : Hnk} (ok : HnkOK h) (hB : pvB (hnkP h) ≤ 8388608) (hR : R (chunkOutR h) σ) : SCalls (cx w0) selvageref12_Hunk.id [.pv (hnkP h)] σ R := by
  refine SCalls.alone L rfl (fun w1 L1 => ?_) rfl hR
  refine selvageref12_Hunk.calls ?_
  rw [selvageref12_Hunk.b0_eq]
  refine ⟨rfl, ?_⟩
  repeat ((with_reducible first | apply opt_in | apply wI | apply wT | apply wP | apply wS | apply wB); exact rfl)
  refine rValid_spec L1 (Nat.le_trans ok.rows (by decide)) (fun x hx => Nat.le_trans (ok.text x hx) (by decide)) (Nat.le_trans ok.head (by decide)) ?_
  refine isI_in ?_
  rw [condB_ibne]
  cases hv : validF h with
  | false =>
    rw [if_neg (by decide)]
    refine fin_keep (Nat.zero_le _) ?_
    unfold chunkOutR
    rw [hv]; rfl
  | true =>
    rw [if_pos rfl, if_pos rfl]
    obtain ⟨v1, v2, v3, v4⟩ := valid_small hv ok
    obtain ⟨w1', _⟩ := validF_facts hv (Nat.le_trans ok.rows (by decide))
    have hK := rowsF_kinds _ _ _ _ w1'
    have e1 := spanC_len (a := h.a) (n := h.n) v1.1 v1.2 v2.1 v2.2
    have e2 := spanC_len (a := h.b) (n := h.m) v3.1 v3.2 v4.1 v4.2
    have e3 := partF_len 2 h.rows (marksF h.rows.length h.rows)
    have e4 := partF_len 3 h.rows (marksF h.rows.length h.rows)
    rw [chunk_parts.1] at e3
    rw [chunk_parts.2] at e4
    have e5 := cheadF_len h
    have e6 := ok.head
    have hB' : pvBs (h.rows.map rowP) ≤ 8388608 := by simp only [pvB, pvBs] at hB; omega
    have fin : ∀ s, s = cheadF h → selvageref12_Hunk.n18 (selvageref12_Hunk.X w1 0) w1 0 (fun r' _ => r' = chunkOutR h) [.cells 39 (hnkC h)] (.ptr 0 0) s := by
      rintro s rfl
      refine selvageref12_Hunk.n18_in ?_
      rw [selvageref12_Hunk.b18_eq]
      refine ⟨by simp only [List.length_cons, List.length_nil]; omega, ?_⟩
      repeat ((with_reducible first | apply opt_in | apply wI | apply wT | apply wP | apply wS | apply wB); exact rfl)
      refine rcspan_spec L1 v1.1 v1.2 v2.1 v2.2 (isS_in ⟨rfl, ?_⟩)
      refine ⟨by simp only [List.length_append, List.length_cons, List.length_nil]; omega, by simp only [List.length_append, List.length_cons, List.length_nil]; omega, ?_⟩
      refine rpart_spec L1 (by decide) ok.rows ok.text hK hB' (isS_in ?_)
      refine ⟨by simp only [List.length_append, List.length_cons, List.length_nil]; omega, by simp only [List.length_append, List.length_cons, List.length_nil]; omega, ?_⟩
      repeat ((with_reducible first | apply opt_in | apply wI | apply wT | apply wP | apply wS | apply wB); exact rfl)
      refine rcspan_spec L1 v3.1 v3.2 v4.1 v4.2 (isS_in ⟨rfl, ?_⟩)
      refine ⟨by simp only [List.length_append, List.length_cons, List.length_nil]; omega, by simp only [List.length_append, List.length_cons, List.length_nil]; omega, ?_⟩
      refine rpart_spec L1 (by decide) ok.rows ok.text hK hB' (isS_in ?_)
      refine ⟨by simp only [List.length_append, List.length_cons, List.length_nil]; omega, fin_keep (Nat.zero_le _) ?_⟩
      unfold chunkOutR chunkF
      rw [hv, if_pos rfl, chunk_parts.1, chunk_parts.2]
      simp [v01]
    repeat ((with_reducible first | apply opt_in | apply wI | apply wT | apply wP | apply wS | apply wB); exact rfl)
    rw [condB_not, condB_sbeq]
    refine ite_split (fun g => fin _ ?_) (fun g => ?_)
    · rw [cheadF, if_pos g]
    · refine ⟨by simp only [List.length_cons, List.length_nil]; omega, ?_⟩
      repeat ((with_reducible first | apply opt_in | apply wI | apply wT | apply wP | apply wS | apply wB); exact rfl)
      refine ⟨by simp only [List.length_append, List.length_cons, List.length_nil]; omega, fin _ ?_⟩
      rw [cheadF, if_neg g]; rfl
def cprintOutR (p s p' s' : List UInt8) (l : List Hnk) : AV := .tup [.pv (.str (if faultN p s p' s' l = 0 then cprintF p s p' s' l else [])), .pv (.int .i64 (faultN p s p' s' l))]
theorem rcp_loop (L : Laid w0.w) (p s p' s' : List UInt8) (xs : List PV) (hx : xs.length ≤ 1048576) (v : AV) : ∀ (r : List Hnk) (k : Nat) (acc : List UInt8), xs.drop k = r.map hnkP → (∀ h ∈ r, HnkOK h) → (∀ h ∈ r, pvB (hnkP h) ≤ 8388608) → r.all validF = true →
    acc.length + (r.flatMap chunkF).length ≤ 140737488355328 → v = .tup [.pv (.str (acc ++ r.flatMap chunkF)), .pv (.int .i64 0)] →
    selvageref12_Print.n18 (selvageref12_Print.X w0 0) w0 0 (fun r' _ => r' = v) (nmS p s p' s' ++ [.arr 1 (bytesPV acc) false]) (.pv (.sl xs)) (.arr 2 acc.length 0 acc.length) k
  | [], k, acc, hd, _, _, _, _, hv => by
    have hk := drop_end hd
    refine selvageref12_Print.n18_in ?_
    rw [selvageref12_Print.b19_eq]
    repeat ((with_reducible first | apply opt_in | apply wI | apply wT | apply wP | apply wS | apply wB); exact rfl)
    rw [condB_decide, if_neg (by omega)]
    refine selvageref12_Print.n31_in ?_
    rw [selvageref12_Print.b31_eq]
    refine opt2_in (conv_bytes (id := 2) (acc := acc) rfl) ?_
    refine isS_in (fin_keep (Nat.zero_le _) ?_)
    rw [hv]; simp
  | h :: r, k, acc, hd, ht, hB, ha, hl, hv => by
    obtain ⟨h1, h2, hk⟩ := drop_facts hd
    have ok := ht h (by simp)
    rw [List.all_cons, Bool.and_eq_true] at ha
    simp only [List.flatMap_cons, List.length_append] at hl
    have ih := rcp_loop L p s p' s' xs hx v r (k + 1) (acc ++ chunkF h) h2 (fun x hx => ht x (List.mem_cons_of_mem _ hx)) (fun x hx => hB x (List.mem_cons_of_mem _ hx)) ha.2 (by simp only [List.length_append]; omega) (by rw [hv, List.flatMap_cons, List.append_assoc])
    refine selvageref12_Print.n18_in ?_
    rw [selvageref12_Print.b19_eq]
    repeat ((with_reducible first | apply opt_in | apply wI | apply wT | apply wP | apply wS | apply wB); exact rfl)
    rw [condB_decide, if_pos (by omega)]
    refine opt_in (idx_ro tab39 h1 rfl) ?_
    repeat ((with_reducible first | apply opt_in | apply wI | apply wT | apply wP | apply wS | apply wB); exact rfl)
    refine rcHunk_spec L ok (hB h (by simp)) ?_
    unfold chunkOutR
    rw [if_pos ha.1, ha.1, v01, if_pos rfl]
    repeat ((with_reducible first | apply opt_in | apply wI | apply wT | apply wP | apply wS | apply wB); exact rfl)
    refine opt2_in (append_bytes (id := 2) (acc := acc) (s := chunkF h) rfl rfl (by omega)) ?_
    rw [wrap_next hk (by omega)]
    exact ih
theorem rcPrint_spec (L : Laid w0.w) {p s p' s' : List UInt8} {l : List Hnk} (o : PrOK p s p' s' l) (hR : R (cprintOutR p s p' s' l) σ) : SCalls (cx w0) selvageref12_Print.id [.pv (nmP p s), .pv (nmP p' s'), hnksA l] σ R := by
  refine SCalls.alone L rfl (fun w1 L1 => ?_) rfl hR
  have q1 := shownF_len (p := p) (s := s)
  have q2 := shownF_len (p := p') (s := s')
  have o1 := o.p
  have o2 := o.s
  have o3 := o.p'
  have o4 := o.s'
  have hx : (l.map hnkP).length ≤ 1048576 := by rw [List.length_map]; exact o.len
  refine selvageref12_Print.calls ?_
  rw [selvageref12_Print.b0_eq]
  refine ⟨rfl, rfl, ?_⟩
  repeat ((with_reducible first | apply opt_in | apply wI | apply wT | apply wP | apply wS | apply wB); exact rfl)
  refine Faults_spec L1 o (isI_in ?_)
  rw [condB_ibne]
  refine ite_split (fun g => ?_) (fun g => fin_keep (Nat.zero_le _) ?_)
  · have e : l.all validF = true := by
      cases e : l.all validF with
      | true => rfl
      | false =>
        unfold faultN at g
        rw [e] at g
        split at g
        · cases g
        · rw [if_pos rfl] at g; cases g
    have fl := flat_chunks_len l o.ok e
    have ob := o.bulk
    repeat ((with_reducible first | apply opt_in | apply wI | apply wT | apply wP | apply wS | apply wB); exact rfl)
    refine Shown_spec L1 o.p o.s (isS_in ⟨rfl, ?_⟩)
    refine ⟨by simp only [List.length_cons, List.length_nil]; omega, by simp only [List.length_append, List.length_cons, List.length_nil]; omega, ?_⟩
    refine Shown_spec L1 o.p' o.s' (isS_in ?_)
    refine ⟨by simp only [List.length_append, List.length_cons, List.length_nil]; omega, by simp only [List.length_append, List.length_cons, List.length_nil]; omega, ?_⟩
    refine opt2_in (conv_str (by simp only [List.length_append, List.length_cons, List.length_nil]; omega)) ?_
    refine rcp_loop L1 p s p' s' (l.map hnkP) hx _ l 0 _ rfl o.ok o.one e (by simp only [List.length_append, List.length_cons, List.length_nil]; omega) ?_
    unfold cprintOutR cprintF cnamesF
    rw [g, if_pos rfl]; simp
  · unfold cprintOutR
    rw [if_neg g]
end
end Go.Sv
