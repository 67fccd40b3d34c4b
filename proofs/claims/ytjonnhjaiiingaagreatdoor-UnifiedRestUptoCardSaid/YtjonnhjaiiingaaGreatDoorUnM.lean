/- What a text is read as: hunks that may be, in order; no greater than the text. What stands behind a diff changes nothing of it. -/
import Derived.Test.YtjonnhjaiiingaaGreatDoorUnL
set_option linter.unusedVariables false
set_option linter.unusedSimpArgs false
set_option maxRecDepth 100000
namespace Go.Sv
theorem bareB_le (t : Ln) : (bareB t).length ≤ t.length := by
  unfold bareB; split
  · rw [List.length_dropLast]; omega
  · omega
theorem rowOf_le {l : Ln} {r : Row} (h : rowOf l = some r) : r.t.length ≤ l.length := by
  cases l with
  | nil => simp [rowOf] at h
  | cons c t =>
    simp only [rowOf] at h
    repeat' split at h
    all_goals first | (cases h; done) | (cases h; simp)
theorem rowOf_pos {l : Ln} {r : Row} (h : rowOf l = some r) : 1 ≤ l.length := by
  cases l with
  | nil => simp [rowOf] at h
  | cons c t => simp
theorem pvBs_rows_append (a b : List Row) : pvBs ((a ++ b).map rowP) = pvBs (a.map rowP) + pvBs (b.map rowP) := by rw [List.map_append, pvBs_append]
theorem bareLast_len (l : List Row) : (bareLast l).length = l.length := by
  unfold bareLast
  rcases List.eq_nil_or_concat l with rfl | ⟨p, r, rfl⟩
  · rfl
  · rw [List.concat_eq_append]; simp
theorem bareLast_bulk (l : List Row) : pvBs ((bareLast l).map rowP) ≤ pvBs (l.map rowP) := by
  unfold bareLast
  rcases List.eq_nil_or_concat l with rfl | ⟨p, r, rfl⟩
  · exact Nat.le_refl _
  · rw [List.concat_eq_append]
    have := bareB_le r.t
    simp only [List.getLast?_append, List.getLast?_singleton, Option.some_or, List.dropLast_concat, pvBs_rows_append, List.map_cons, List.map_nil, pvBs, pvB]
    omega
theorem bareLast_text {T : Nat} {l : List Row} (h : ∀ r ∈ l, r.t.length ≤ T) : ∀ r ∈ bareLast l, r.t.length ≤ T := by
  unfold bareLast
  rcases List.eq_nil_or_concat l with rfl | ⟨p, r, rfl⟩
  · exact h
  · rw [List.concat_eq_append] at *
    simp only [List.getLast?_append, List.getLast?_singleton, Option.some_or, List.dropLast_concat]
    intro x hx
    rcases List.mem_append.1 hx with hx | hx
    · exact h x (by simp [hx])
    · rw [List.mem_singleton] at hx; subst hx
      exact Nat.le_trans (bareB_le r.t) (h r (by simp))
structure RowsOut (T : Nat) (ls : List Ln) (acc rows : List Row) (r : List Ln) : Prop where
  pre : ∃ p, ls = p ++ r
  bulk : pvBs (rows.map rowP) + 3 * r.flatten.length ≤ pvBs (acc.map rowP) + 3 * ls.flatten.length
  len : rows.length + r.flatten.length ≤ acc.length + ls.flatten.length
  text : (∀ x ∈ acc, x.t.length ≤ T) → ∀ x ∈ rows, x.t.length ≤ T
theorem rowsL_out (N M : Int) (T : Nat) : ∀ (ls : List Ln) (n m : Int) (fr : Bool) (acc rows : List Row) (r : List Ln), (∀ l ∈ ls, l.length ≤ T) → rowsL N M ls n m fr acc = some (rows, r) → RowsOut T ls acc rows r
  | [], n, m, fr, acc, rows, r, hT, h => by
    unfold rowsL at h
    split at h
    · cases h; exact ⟨⟨[], rfl⟩, Nat.le_refl _, Nat.le_refl _, fun h => h⟩
    · cases h
  | l :: ls, n, m, fr, acc, rows, r, hT, h => by
    have hTs : ∀ x ∈ ls, x.length ≤ T := fun x hx => hT x (List.mem_cons_of_mem _ hx)
    have hl := hT l (by simp)
    unfold rowsL at h
    split at h
    · split at h
      · obtain ⟨⟨p, hp⟩, h2, h3, h4⟩ := rowsL_out N M T ls _ _ _ _ rows r hTs h
        have b1 := bareLast_bulk acc
        have b2 := bareLast_len acc
        refine ⟨⟨l :: p, by rw [hp]; rfl⟩, ?_, ?_, fun ha => h4 (bareLast_text ha)⟩
        · simp only [List.flatten_cons, List.length_append]; omega
        · simp only [List.flatten_cons, List.length_append]; omega
      · cases h
    · split at h
      · cases h; exact ⟨⟨[], rfl⟩, Nat.le_refl _, Nat.le_refl _, fun h => h⟩
      · split at h
        · cases h
        · rename_i w hw
          split at h
          · cases h
          · obtain ⟨⟨p, hp⟩, h2, h3, h4⟩ := rowsL_out N M T ls _ _ _ _ rows r hTs h
            have b1 := rowOf_le hw
            have b2 := rowOf_pos hw
            simp only [pvBs_rows_append, List.map_cons, List.map_nil, pvBs, pvB, List.length_append, List.length_singleton] at h2 h3
            refine ⟨⟨l :: p, by rw [hp]; rfl⟩, ?_, ?_, fun ha => h4 fun x hx => ?_⟩
            · simp only [List.flatten_cons, List.length_append]; omega
            · simp only [List.flatten_cons, List.length_append]; omega
            · rcases List.mem_append.1 hx with hx | hx
              · exact ha x hx
              · rw [List.mem_singleton] at hx; subst hx
                omega
theorem numL_out : ∀ (s : Ln) (n : Int), 0 ≤ n → n ≤ 2147483648 → 0 ≤ (numL s n).1 ∧ (numL s n).1 ≤ 2147483648 ∧ (numL s n).2.length ≤ s.length
  | [], n, h0, h1 => ⟨h0, h1, Nat.le_refl _⟩
  | c :: r, n, h0, h1 => by
    unfold numL
    split
    · rename_i hc
      have := numL_out r (capI (n * 10 + ((c.toNat : Int) - 48))) (by unfold capI; split <;> omega) (by unfold capI; split <;> omega)
      exact ⟨this.1, this.2.1, by simp only [List.length_cons]; omega⟩
    · exact ⟨h0, h1, Nat.le_refl _⟩
theorem numF_out (s : Ln) : 0 ≤ (numF s).1 ∧ (numF s).1 ≤ 2147483648 ∧ (numF s).2.1.length ≤ s.length := numL_out s 0 (by omega) (by omega)
theorem rangF_out (s : Ln) : (0 ≤ (rangF s).1 ∧ (rangF s).1 ≤ 2147483648) ∧ (0 ≤ (rangF s).2.1 ∧ (rangF s).2.1 ≤ 2147483648) ∧ (rangF s).2.2.1.length ≤ s.length := by
  have h1 := numF_out s
  have h2 := numF_out ((numF s).2.1.drop 1)
  rw [List.length_drop] at h2
  unfold rangF
  split
  · refine ⟨⟨h1.1, h1.2.1⟩, ⟨h2.1, h2.2.1⟩, ?_⟩
    show (numF ((numF s).2.1.drop 1)).2.1.length ≤ _
    omega
  · exact ⟨⟨h1.1, h1.2.1⟩, ⟨by show (0 : Int) ≤ 1; omega, by show (1 : Int) ≤ _; omega⟩, h1.2.2⟩
theorem cutF_out (s p : Ln) : (cutF s p).1.length ≤ s.length := by
  unfold cutF; split
  · simp
  · exact Nat.le_refl _
def hSm (k : Nat) (h : Hnk) : Prop := (0 ≤ h.a ∧ h.a ≤ 2147483648) ∧ (0 ≤ h.n ∧ h.n ≤ 2147483648) ∧ (0 ≤ h.b ∧ h.b ≤ 2147483648) ∧ (0 ≤ h.m ∧ h.m ≤ 2147483648) ∧ h.head.length ≤ k ∧ h.rows = []
theorem fst4_out {k : Nat} {h : Hnk} {s : Ln} {ok : Bool} (hh : hSm k h) (hs : s.length ≤ k) : hSm k (fst4 h s ok).1 := by
  unfold fst4
  split
  · exact hh
  · split
    · exact hh
    · refine ⟨hh.1, hh.2.1, hh.2.2.1, hh.2.2.2.1, ?_, hh.2.2.2.2.2⟩
      show (Lib.trimPrefix s [32]).length ≤ k
      unfold Lib.trimPrefix
      split
      · rw [List.length_drop]; omega
      · exact hs
theorem fst3_out {k : Nat} {h : Hnk} {s : Ln} {ok : Bool} (hh : hSm k h) (hs : s.length ≤ k) : hSm k (fst3 h s ok).1 := by
  have := cutF_out s [32, 64, 64]
  unfold fst3; split
  · exact fst4_out hh (by omega)
  · exact fst4_out hh hs
theorem fst2_out {k : Nat} {h : Hnk} {s : Ln} {ok : Bool} (hh : hSm k h) (hs : s.length ≤ k) : hSm k (fst2 h s ok).1 := by
  have := rangF_out s
  unfold fst2; split
  · exact fst3_out ⟨hh.1, hh.2.1, this.1, this.2.1, hh.2.2.2.2⟩ (by omega)
  · exact fst3_out hh hs
theorem fst1_out {k : Nat} {h : Hnk} {s : Ln} {ok : Bool} (hh : hSm k h) (hs : s.length ≤ k) : hSm k (fst1 h s ok).1 := by
  have := cutF_out s [32, 43]
  unfold fst1; split
  · exact fst2_out hh (by omega)
  · exact fst2_out hh hs
theorem zero_sm (k : Nat) : hSm k zeroH := by simp [hSm, zeroH]
theorem firstF_out (s : Ln) : hSm s.length (firstF s).1 := by
  have h1 := cutF_out s [64, 64, 32, 45]
  have h2 := rangF_out (cutF s [64, 64, 32, 45]).1
  unfold firstF; split
  · exact fst1_out ⟨h2.1, h2.2.1, (zero_sm _).2.2⟩ (by omega)
  · exact fst1_out (zero_sm _) h1
structure HunkOut (T : Nat) (ahead : List Hnk) (ls : List Ln) (h : Hnk) (r : List Ln) : Prop where
  pre : ∃ l p, ls = l :: (p ++ r)
  valid : validF h = true
  ord : ordL ahead h = true
  small : (0 ≤ h.a ∧ h.a ≤ 2147483648) ∧ (0 ≤ h.b ∧ h.b ≤ 2147483648) ∧ h.head.length ≤ T ∧ (∀ x ∈ h.rows, x.t.length ≤ T)
  bulk : pvB (hnkP h) + 7 * r.flatten.length ≤ 7 * ls.flatten.length
  len : h.rows.length + r.flatten.length ≤ ls.flatten.length
theorem hunkL_out {T : Nat} {ahead : List Hnk} {ls : List Ln} {h : Hnk} {r : List Ln} (hT : ∀ l ∈ ls, l.length ≤ T) (hne : ∀ l ∈ ls, l ≠ []) (e : hunkL ahead ls = some (h, r)) : HunkOut T ahead ls h r := by
  cases ls with
  | nil => simp [hunkL] at e
  | cons l ls =>
    have f := firstF_out (bareB l)
    have hb := bareB_le l
    have hl := hT l (by simp)
    have hl1 : 1 ≤ l.length := List.length_pos_iff.2 (hne l (by simp))
    simp only [hunkL] at e
    split at e
    · split at e
      · cases e
      · rename_i rows r' hr
        split at e
        · rename_i hv
          split at e
          · rename_i ho
            cases e
            have o := rowsL_out _ _ T ls 0 0 false [] rows r (fun x hx => hT x (List.mem_cons_of_mem _ hx)) hr
            obtain ⟨p, hp⟩ := o.pre
            have ob := o.bulk
            have ol := o.len
            obtain ⟨f1, f2, f3, f4, f5, f6⟩ := f
            simp only [List.map_nil, pvBs, List.length_nil, Nat.zero_add] at ob ol
            refine ⟨⟨l, p, by rw [hp]⟩, hv, ho, ⟨f1, f3, by show (firstF (bareB l)).1.head.length ≤ T; omega, o.text (by simp)⟩, ?_, ?_⟩
            · simp only [pvB, pvBs, List.flatten_cons, List.length_append]
              omega
            · simp only [List.flatten_cons, List.length_append]
              omega
          · cases e
        · cases e
    · cases e
structure HunksOut (T : Nat) (acc : List Hnk) (ls : List Ln) (hs : List Hnk) (r : List Ln) : Prop where
  pre : ∃ p, ls = p ++ r
  new : ∃ l, hs = acc ++ l ∧ (∀ h ∈ l, validF h = true ∧ ((0 ≤ h.a ∧ h.a ≤ 2147483648) ∧ (0 ≤ h.b ∧ h.b ≤ 2147483648) ∧ h.head.length ≤ T ∧ (∀ x ∈ h.rows, x.t.length ≤ T)) ∧ h.rows.length ≤ ls.flatten.length) ∧
    inOrd l = true ∧ (∀ h, l.head? = some h → ordL acc h = true) ∧ pvBs (l.map hnkP) + 7 * r.flatten.length ≤ 7 * ls.flatten.length ∧ l.length + r.flatten.length ≤ ls.flatten.length
theorem hunksL_out (T : Nat) : ∀ (f : Nat) (acc : List Hnk) (ls : List Ln) (hs : List Hnk) (r : List Ln), (∀ l ∈ ls, l.length ≤ T) → (∀ l ∈ ls, l ≠ []) → hunksL f acc ls = some (hs, r) → HunksOut T acc ls hs r
  | 0, acc, ls, hs, r, _, _, h => by simp [hunksL] at h
  | f + 1, acc, [], hs, r, _, _, h => by
    simp only [hunksL, Option.some.injEq, Prod.mk.injEq] at h
    obtain ⟨rfl, rfl⟩ := h
    exact ⟨⟨[], rfl⟩, [], by simp, by simp, rfl, by simp, by simp [pvBs], by simp⟩
  | f + 1, acc, l :: ls, hs, r, hT, hne, h => by
    simp only [hunksL] at h
    split at h
    · split at h
      · cases h
      · rename_i g r1 hg
        have o := hunkL_out hT hne hg
        obtain ⟨l0, p, hp⟩ := o.pre
        have hmem : ∀ x ∈ r1, x ∈ l :: ls := fun x hx => by rw [hp]; simp [hx]
        have o2 := hunksL_out T f _ r1 hs r (fun x hx => hT x (hmem x hx)) (fun x hx => hne x (hmem x hx)) h
        obtain ⟨p2, hp2⟩ := o2.pre
        obtain ⟨k, k1, k2, k3, k4, k5, k6⟩ := o2.new
        have ob := o.bulk
        have ol := o.len
        have l1 : 1 ≤ l.length := List.length_pos_iff.2 (hne l (by simp))
        have hlt : r1.flatten.length + 1 ≤ (l :: ls).flatten.length := by
          have hl0 : l0 = l := by simp only [List.cons.injEq] at hp; exact hp.1.symm
          rw [hp, hl0]
          simp only [List.flatten_cons, List.flatten_append, List.length_append]
          omega
        refine ⟨⟨l0 :: (p ++ p2), by rw [hp, hp2]; simp⟩, g :: k, by rw [k1]; simp, ?_, ?_, ?_, ?_, ?_⟩
        · intro x hx
          rcases List.mem_cons.1 hx with rfl | hx
          · exact ⟨o.valid, o.small, by omega⟩
          · obtain ⟨q1, q2, q3⟩ := k2 x hx
            exact ⟨q1, q2, by omega⟩
        · cases k with
          | nil => rfl
          | cons y k =>
            rw [inOrd, Bool.and_eq_true]
            refine ⟨?_, k3⟩
            have := k4 y rfl
            unfold ordL at this
            rw [List.getLast?_append] at this
            simpa using this
        · intro x hx
          simp at hx; subst hx
          exact o.ord
        · simp only [List.map_cons]
          rw [pvBs]
          omega
        · simp only [List.length_cons]; omega
    · cases h
      exact ⟨⟨[], rfl⟩, [], by simp, by simp, rfl, by simp, by simp [pvBs], by simp⟩
theorem uqL_out : ∀ (n : Nat) (s acc p r : Ln), uqL n s acc = some (p, r) → p.length + r.length ≤ acc.length + s.length
  | 0, s, acc, p, r, h => by simp [uqL] at h
  | n + 1, [], acc, p, r, h => by simp [uqL] at h
  | n + 1, c :: s, acc, p, r, h => by
    rw [uqL.eq_def] at h
    simp only at h
    split at h
    · cases h; simp only [List.length_cons]; omega
    · split at h
      · cases h
      · split at h
        · have := uqL_out n s _ p r h
          simp only [List.length_append, List.length_cons, List.length_nil] at this ⊢; omega
        · split at h
          · cases h
          · rename_i d r1
            split at h
            · have := uqL_out n r1 _ p r h
              simp only [List.length_append, List.length_cons, List.length_nil] at this ⊢; omega
            · split at h
              · rename_i v hv
                have := uqL_out n _ _ p r h
                simp only [List.length_append, List.length_cons, List.length_nil, List.length_drop] at this ⊢; omega
              · cases h
theorem unqF_out {s p r : Ln} (h : unqF s = some (p, r)) : p.length + r.length ≤ s.length := by
  unfold unqF at h
  split at h
  · have := uqL_out _ _ _ p r h
    simp only [List.length_cons, List.length_nil] at this ⊢; omega
  · cases h
    rw [List.length_take, List.length_drop]
    have := nameEnd_le s
    omega
theorem nameF_out {mark l p s : Ln} (h : nameF mark l = some (p, s)) : p.length + s.length ≤ l.length := by
  have hb := bareB_le l
  unfold nameF at h
  split at h
  · split at h
    · cases h
    · rename_i p0 hp
      cases h
      have := unqF_out hp
      rw [List.length_drop] at this
      simp only [List.length_nil] at this ⊢; omega
    · rename_i p0 c r hp
      split at h
      · cases h
        have := unqF_out hp
        rw [List.length_drop] at this
        simp only [List.length_cons] at this; omega
      · cases h
  · cases h
theorem mem_flatten_len {l : Ln} : ∀ {L : List Ln}, l ∈ L → l.length ≤ L.flatten.length
  | x :: L, h => by
    rw [List.flatten_cons, List.length_append]
    rcases List.mem_cons.1 h with rfl | h
    · omega
    · have := mem_flatten_len h; omega
theorem readL_out {ls : List Ln} {x : Pars} (hne : ∀ l ∈ ls, l ≠ []) (hB : ls.flatten.length ≤ 1048577) (h : readL ls = some x) :
    (x.a.1.length + x.a.2.length ≤ 1048576 ∧ x.b.1.length + x.b.2.length ≤ 1048576) ∧ x.l ≠ [] ∧ (∀ g ∈ x.l, validF g = true ∧ HnkOK g) ∧ inOrd x.l = true ∧ pvBs (x.l.map hnkP) ≤ 8388608 ∧ x.l.length ≤ 1048576 ∧ ∃ p, ls = p ++ x.r := by
  match ls, h with
  | [], h => simp [readL] at h
  | [_], h => simp [readL] at h
  | l1 :: l2 :: ls, h =>
    have n1 : 1 ≤ l1.length := List.length_pos_iff.2 (hne l1 (by simp))
    have n2 : 1 ≤ l2.length := List.length_pos_iff.2 (hne l2 (by simp))
    simp only [List.flatten_cons, List.length_append] at hB
    simp only [readL] at h
    split at h
    · rename_i a b ha hb
      split at h
      · rename_i g hs r hr
        cases h
        have o := hunksL_out 1048576 _ _ ls _ _ (fun l hl => by have := mem_flatten_len hl; omega) (fun l hl => hne l (by simp [hl])) hr
        obtain ⟨p, hp⟩ := o.pre
        obtain ⟨k, k1, k2, k3, k4, k5, k6⟩ := o.new
        rw [List.nil_append] at k1
        subst k1
        obtain ⟨a1, a2⟩ := a
        obtain ⟨b1, b2⟩ := b
        have oa := nameF_out ha
        have ob := nameF_out hb
        refine ⟨⟨by show a1.length + a2.length ≤ _; omega, by show b1.length + b2.length ≤ _; omega⟩, by simp, fun x hx => ?_, k3, by show pvBs ((g :: hs).map hnkP) ≤ _; omega, by show (g :: hs).length ≤ _; omega, ⟨l1 :: l2 :: p, by rw [hp]; rfl⟩⟩
        obtain ⟨q1, ⟨q2, q3, q4, q5⟩, q6⟩ := k2 x hx
        exact ⟨q1, ⟨by omega, q5, q4, by omega, by omega⟩⟩
      · cases h
    · cases h
theorem wholeF_len (s : Ln) : (wholeF s).length ≤ s.length + 1 := by
  unfold wholeF; split
  · simp
  · omega
theorem parse_out {s : Ln} {x : Pars} {rest : Ln} (hs : s.length ≤ 1048576) (h : parseF s = some (x, rest)) :
    (x.a.1.length + x.a.2.length ≤ 1048576 ∧ x.b.1.length + x.b.2.length ≤ 1048576) ∧ x.l ≠ [] ∧ (∀ g ∈ x.l, validF g = true ∧ HnkOK g) ∧ inOrd x.l = true ∧ pvBs (x.l.map hnkP) ≤ 8388608 ∧ x.l.length ≤ 1048576 := by
  unfold parseF at h
  split at h
  · cases h
  · split at h
    · cases h
    · rename_i y hy
      cases h
      have := wholeF_len s
      obtain ⟨q1, q2, q3, q4, q5, q6, _⟩ := readL_out (splitF_ne _) (by rw [splitF_flat]; omega) hy
      exact ⟨q1, q2, q3, q4, q5, q6⟩
theorem rows_more (N M : Int) (X : List Ln) (hX : no92 X) : ∀ (ls : List Ln) (n m : Int) (fr : Bool) (acc rows : List Row) (r : List Ln), rowsL N M ls n m fr acc = some (rows, r) → rowsL N M (ls ++ X) n m fr acc = some (rows, r ++ X)
  | [], n, m, fr, acc, rows, r, h => by
    unfold rowsL at h
    split at h
    · rename_i e
      cases h
      cases X with
      | nil => simp [rowsL, e]
      | cons x X =>
        have := hX x (by simp)
        simp [rowsL, e, this]
    · cases h
  | l :: ls, n, m, fr, acc, rows, r, h => by
    rw [List.cons_append]
    unfold rowsL at h ⊢
    split at h
    · rename_i h92
      rw [if_pos h92]
      split at h
      · rename_i hf
        rw [if_pos hf]
        exact rows_more N M X hX ls _ _ _ _ _ _ h
      · cases h
    · rename_i h92
      rw [if_neg h92]
      split at h
      · rename_i e
        cases h
        rw [if_pos e]; rfl
      · rename_i e
        rw [if_neg e]
        split at h
        · cases h
        · rename_i w hw
          split at h
          · cases h
          · rename_i hb
            rw [if_neg hb]
            exact rows_more N M X hX ls _ _ _ _ _ _ h
theorem hunk_more (X : List Ln) (hX : no92 X) {ahead : List Hnk} {ls : List Ln} {h : Hnk} {r : List Ln} (e : hunkL ahead ls = some (h, r)) : hunkL ahead (ls ++ X) = some (h, r ++ X) := by
  cases ls with
  | nil => simp [hunkL] at e
  | cons l ls =>
    rw [List.cons_append]
    simp only [hunkL] at e ⊢
    split at e
    · rename_i h1
      rw [if_pos h1]
      split at e
      · cases e
      · rename_i rows r' hr
        rw [rows_more _ _ X hX _ _ _ _ _ _ _ hr]
        simp only
        split at e
        · rename_i hv
          rw [if_pos hv]
          split at e
          · rename_i ho
            rw [if_pos ho]
            cases e; rfl
          · cases e
        · cases e
    · cases e
def noHk (X : List Ln) : Prop := ∀ x ∈ X.head?, Lib.hasPrefix x [64, 64, 32, 45] = false
theorem hunks_more (X : List Ln) (hX : no92 X) (hH : noHk X) : ∀ (f f' : Nat) (acc : List Hnk) (ls : List Ln) (hs : List Hnk), f ≤ f' → hunksL f acc ls = some (hs, []) → hunksL f' acc (ls ++ X) = some (hs, X)
  | 0, f', acc, ls, hs, _, h => by simp [hunksL] at h
  | f + 1, f', acc, [], hs, hf, h => by
    simp only [hunksL, Option.some.injEq, Prod.mk.injEq] at h
    obtain ⟨rfl, _⟩ := h
    obtain ⟨g, rfl⟩ : ∃ g, f' = g + 1 := ⟨f' - 1, by omega⟩
    cases X with
    | nil => simp [hunksL]
    | cons x X =>
      have := hH x (by simp)
      simp [hunksL, this]
  | f + 1, f', acc, l :: ls, hs, hf, h => by
    obtain ⟨g, rfl⟩ : ∃ g, f' = g + 1 := ⟨f' - 1, by omega⟩
    rw [List.cons_append]
    simp only [hunksL] at h ⊢
    split at h
    · rename_i hp
      rw [if_pos hp]
      split at h
      · cases h
      · rename_i k r hk
        have := hunk_more X hX hk
        rw [List.cons_append] at this
        rw [this]
        simp only
        exact hunks_more X hX hH f g _ r hs (by omega) h
    · cases h
theorem read_more (X : List Ln) (hX : no92 X) (hH : noHk X) {ls : List Ln} {x : Pars} (h : readL ls = some x) (hr : x.r = []) : readL (ls ++ X) = some ⟨x.a, x.b, x.l, X⟩ := by
  match ls, h with
  | [], h => simp [readL] at h
  | [_], h => simp [readL] at h
  | l1 :: l2 :: ls, h =>
    rw [List.cons_append, List.cons_append]
    simp only [readL] at h ⊢
    split at h
    · rename_i a b ha hb
      split at h
      · rename_i g hs r hr'
        cases h
        simp only at hr
        subst hr
        rw [hunks_more X hX hH _ ((ls ++ X).length + 1) [] ls _ (by simp) hr']
      · cases h
    · cases h
theorem wholeF_append {s b : Ln} (hs : wholeB s = true) : wholeF (s ++ b) = s ++ wholeF b := by
  have hne : s ≠ [] := fun e => by rw [e] at hs; simp [wholeB] at hs
  unfold wholeF
  by_cases hb : b = []
  · subst hb
    simp [hs]
  · rw [wholeB_append hb]
    by_cases hw : wholeB b = false
    · rw [if_pos ⟨by simp [hne], hw⟩, if_pos ⟨hb, hw⟩, List.append_assoc]
    · rw [if_neg (fun h => hw h.2), if_neg (fun h => hw h.2)]
theorem head_split {s : Ln} : ∀ x ∈ (splitF s).head?, ∃ t, s = x ++ t := by
  intro x hx
  have := splitF_flat s
  cases h : splitF s with
  | nil => rw [h] at hx; simp at hx
  | cons y L =>
    rw [h] at hx this
    simp at hx; subst hx
    exact ⟨L.flatten, by rw [← this]; rfl⟩
theorem prefix_whole {b p : Ln} (hp : ∀ c ∈ p, c ≠ 10) (h : p <+: wholeF b) : p <+: b := by
  unfold wholeF at h
  split at h
  · rename_i hc
    obtain ⟨t, ht⟩ := h
    rcases List.eq_nil_or_concat t with rfl | ⟨q, c, rfl⟩
    · rw [List.append_nil] at ht
      exact absurd rfl (hp 10 (by rw [ht]; simp))
    · rw [List.concat_eq_append, ← List.append_assoc] at ht
      have := (List.append_inj' ht rfl).1
      exact ⟨q, this⟩
  · exact h
theorem parse_more {s b : Ln} {x : Pars} (h : parseF s = some (x, [])) (hs : wholeB s = true) (hl : (s ++ b).length ≤ 4194304) (hb1 : Lib.hasPrefix b [64, 64, 32, 45] = false) (hb2 : Lib.hasPrefix b [92] = false) :
    ∃ r, parseF (s ++ b) = some (⟨x.a, x.b, x.l, r⟩, b) := by
  have hne : s ≠ [] := fun e => by rw [e] at hs; simp [wholeB] at hs
  have hw : wholeF s = s := by unfold wholeF; rw [if_neg (by rw [hs]; simp)]
  unfold parseF at h
  split at h
  · cases h
  split at h
  · cases h
  rename_i y hy
  simp only [Option.some.injEq, Prod.mk.injEq] at h
  obtain ⟨rfl, hd⟩ := h
  rw [hw] at hy
  have hspos : 0 < s.length := List.length_pos_iff.2 hne
  have hyr : y.r = [] := by
    have hpre : ∃ p, splitF s = p ++ y.r := by
      match hls : splitF s, hy with
      | [], hy => simp [readL] at hy
      | [_], hy => simp [readL] at hy
      | l1 :: l2 :: ls, hy =>
        simp only [readL] at hy
        split at hy
        · split at hy
          · rename_i g hs' r hr
            cases hy
            have o := hunksL_out (ls.flatten.length) _ _ ls _ _ (fun l hl => mem_flatten_len hl) (fun l hl => splitF_ne s l (by rw [hls]; simp [hl])) hr
            obtain ⟨p, hp⟩ := o.pre
            exact ⟨l1 :: l2 :: p, by rw [hp]; rfl⟩
          · cases hy
        · cases hy
    obtain ⟨p, hp⟩ := hpre
    have hsz : s.length ≤ min (sizeF s y.r) s.length := by
      have := List.drop_eq_nil_iff.1 hd
      omega
    have hfl : (splitF s).flatten.length = p.flatten.length + y.r.flatten.length := by rw [hp, List.flatten_append, List.length_append]
    rw [splitF_flat] at hfl
    unfold sizeF at hsz
    rw [hw] at hsz
    have h0 : y.r.flatten.length = 0 := by omega
    cases hr : y.r with
    | nil => rfl
    | cons l r =>
      have hl : l ≠ [] := splitF_ne s l (by rw [hp, hr]; simp)
      have : 1 ≤ l.length := List.length_pos_iff.2 hl
      rw [hr, List.flatten_cons, List.length_append] at h0
      omega
  have hX1 : no92 (splitF (wholeF b)) := by
    intro l hl e
    obtain ⟨t, ht⟩ := head_split l hl
    have : [92] <+: b := by
      refine prefix_whole (by simp) ?_
      cases l with
      | nil => simp at e
      | cons c l =>
        simp at e; subst e
        rw [ht]; exact ⟨l ++ t, by simp⟩
    have h2 := List.isPrefixOf_iff_prefix.2 this
    unfold Lib.hasPrefix at hb2
    rw [h2] at hb2; cases hb2
  have hX2 : noHk (splitF (wholeF b)) := by
    intro l hl
    obtain ⟨t, ht⟩ := head_split l hl
    cases e : Lib.hasPrefix l [64, 64, 32, 45] with
    | false => rfl
    | true =>
      have h1 : [64, 64, 32, 45] <+: l := List.isPrefixOf_iff_prefix.1 e
      have : [64, 64, 32, 45] <+: b := prefix_whole (by decide) (by rw [ht]; exact h1.trans (List.prefix_append _ _))
      have h2 := List.isPrefixOf_iff_prefix.2 this
      unfold Lib.hasPrefix at hb1
      rw [h2] at hb1; cases hb1
  have hread := read_more (splitF (wholeF b)) hX1 hX2 hy hyr
  refine ⟨splitF (wholeF b), ?_⟩
  unfold parseF
  rw [if_neg (by omega), wholeF_append hs, splitF_append s _ (by simp [endB, hs]), hread]
  simp only [Option.some.injEq, Prod.mk.injEq, true_and]
  have hsz : sizeF (s ++ b) (splitF (wholeF b)) = s.length := by
    unfold sizeF
    rw [wholeF_append hs, splitF_flat, List.length_append]; omega
  rw [hsz, Nat.min_eq_left (by simp)]
  simp
end Go.Sv
