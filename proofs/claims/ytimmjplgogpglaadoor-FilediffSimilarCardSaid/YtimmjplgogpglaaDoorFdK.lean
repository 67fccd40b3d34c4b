/- What package myers answers: a box without what is alike at its ends. -/
import Derived.Test.YtimmjplgogpglaaDoorFdJ
set_option linter.unusedVariables false
set_option linter.unusedSimpArgs false
set_option maxRecDepth 100000
namespace Go.Sv
abbrev bxC (a b : List Int) (x y : Nat) : List AV := [intsA a, intsA b, .pv (.int .i64 (x : Int)), .pv (.int .i64 (y : Int))]
abbrev bxP (a b : List Int) (x y : Nat) : PV := .agg [.sl (iP a), .sl (iP b), .int .i64 (x : Int), .int .i64 (y : Int)]
structure TrimOut (a b : List Int) (a' b' : List Int) (i : Nat) : Prop where
  cnt : cntL a' b' = cntL a b
  la : i + a'.length ≤ a.length
  lb : i + b'.length ≤ b.length
  ends : a' = [] ∨ b' = [] ∨ 2 ≤ cntL a' b'
def HeadNe : List Int → List Int → Prop
  | u :: _, v :: _ => u ≠ v
  | _, _ => True
section
open Go Go.RowKit Go.Proofs
variable {w0 : Base} {σ : Store} {P : AV → Prop}
abbrev tmS (a b : List Int) (x y : Nat) : Store := [.cells 115 (bxC a b x y), .cells 115 [.nilsl, .nilsl, .pv (.int .i64 0), .pv (.int .i64 0)]]
abbrev t4 (w0 : Base) (P : AV → Prop) (a b : List Int) (x y : Nat) : Prop := myers_box_trim.n4 (myers_box_trim.X w0 0) w0 0 (fun r _ => P r) (tmS a b x y) (.ptr 0 0) (.ptr 1 0)
abbrev t8 (w0 : Base) (P : AV → Prop) (a b : List Int) (x y : Nat) (q : Bool) : Prop := myers_box_trim.n8 (myers_box_trim.X w0 0) w0 0 (fun r _ => P r) (tmS a b x y) (.ptr 0 0) (.ptr 1 0) q
abbrev t15 (w0 : Base) (P : AV → Prop) (a b : List Int) (x y : Nat) : Prop := myers_box_trim.n15 (myers_box_trim.X w0 0) w0 0 (fun r _ => P r) (tmS a b x y) (.ptr 0 0) (.ptr 1 0)
abbrev t19 (w0 : Base) (P : AV → Prop) (a b : List Int) (x y : Nat) (q : Bool) : Prop := myers_box_trim.n19 (myers_box_trim.X w0 0) w0 0 (fun r _ => P r) (tmS a b x y) (.ptr 0 0) (.ptr 1 0) q
theorem ints_sized : ∀ l : List Int, sized 1 (iP l) = true := by
  intro l
  simp only [sized, List.all_eq_true, List.mem_map]
  rintro x ⟨r, _, rfl⟩
  rfl
theorem ints_drop {l : List Int} {k : Nat} (h : k ≤ l.length) : aSlice σ tabS ti43.td (intsA l) (some (.pv (.int .i64 (k : Int)))) none = some (intsA (l.drop k)) := by
  show (if (0 : Int) ≤ (k : Int) ∧ (k : Int) ≤ (((iP l).length : Nat) : Int) ∧ (((iP l).length : Nat) : Int) ≤ (((iP l).length : Nat) : Int) then (if sized 1 (iP l) = true then some (AV.pv (.sl (((iP l).take (((iP l).length : Nat) : Int).toNat).drop (k : Int).toNat))) else none) else none) = _
  rw [if_pos (by rw [List.length_map]; omega), if_pos (ints_sized l)]
  simp [List.take_of_length_le]
theorem ints_take {l : List Int} {k : Nat} (h : k ≤ l.length) : aSlice σ tabS ti43.td (intsA l) none (some (.pv (.int .i64 (k : Int)))) = some (intsA (l.take k)) := by
  show (if (0 : Int) ≤ 0 ∧ (0 : Int) ≤ (k : Int) ∧ (k : Int) ≤ (((iP l).length : Nat) : Int) then (if sized 1 (iP l) = true then some (AV.pv (.sl (((iP l).take (k : Int).toNat).drop (0 : Int).toNat))) else none) else none) = _
  rw [if_pos (by rw [List.length_map]; omega), if_pos (ints_sized l)]
  simp
theorem trim_front : ∀ (a b : List Int) (x y : Nat), a.length + x ≤ 16777216 → b.length + y ≤ 16777216 → (∀ a' b' i, cntL a' b' = cntL a b → i + a'.length = a.length → i + b'.length = b.length → HeadNe a' b' → t15 w0 P a' b' (x + i) (y + i)) → t4 w0 P a b x y
  | a, b, x, y, hx, hy, done => by
    have h8 : HeadNe a b → t8 w0 P a b x y false := by
      intro hne
      refine myers_box_trim.n8_in ?_
      rw [myers_box_trim.b8_eq, condB_false']
      refine myers_box_trim.n13_in ?_
      rw [myers_box_trim.b13_eq]
      exact done a b 0 rfl (Nat.zero_add _) (Nat.zero_add _) hne
    refine myers_box_trim.n4_in ?_
    rw [myers_box_trim.b5_eq]
    repeat ((with_reducible first | apply opt_in | apply wI | apply wT | apply wP | apply wS | apply wB); exact rfl)
    rw [List.length_map, condB_decide]
    refine ite_split (fun g => ?_) (fun g => ?_)
    · repeat ((with_reducible first | apply opt_in | apply wI | apply wT | apply wP | apply wS | apply wB); exact rfl)
      rw [List.length_map, condB_decide]
      refine ite_split (fun g2 => ?_) (fun g2 => ?_)
      · match a, b, g, g2 with
        | u :: a1, v :: b1, g, g2 =>
          repeat ((with_reducible first | apply opt_in | apply wI | apply wT | apply wP | apply wS | apply wB); exact rfl)
          refine opt_in (idx_ro (k := 0) tab3 (show (iP (u :: a1))[0]? = some (intP u) from rfl) rfl) ?_
          repeat ((with_reducible first | apply opt_in | apply wI | apply wT | apply wP | apply wS | apply wB); exact rfl)
          refine opt_in (idx_ro (k := 0) tab3 (show (iP (v :: b1))[0]? = some (intP v) from rfl) rfl) ?_
          repeat ((with_reducible first | apply opt_in | apply wI | apply wT | apply wP | apply wS | apply wB); exact rfl)
          by_cases e : u = v
          · subst e
            rw [show ((u : Int) == u) = true by simp]
            refine myers_box_trim.n8_in ?_
            rw [myers_box_trim.b8_eq, condB_true']
            repeat ((with_reducible first | apply opt_in | apply wI | apply wT | apply wP | apply wS | apply wB); exact rfl)
            refine opt_in (ints_drop (k := 1) (by simp)) ?_
            repeat ((with_reducible first | apply opt_in | apply wI | apply wT | apply wP | apply wS | apply wB); exact rfl)
            refine opt_in (ints_drop (k := 1) (by simp)) ?_
            repeat ((with_reducible first | apply opt_in | apply wI | apply wT | apply wP | apply wS | apply wB); exact rfl)
            simp only [List.length_cons] at hx hy
            rw [wrap_next (n := 16777217) (by omega) (by omega), wrap_next (n := 16777217) (by omega) (by omega)]
            repeat ((with_reducible first | apply opt_in | apply wI | apply wT | apply wP | apply wS | apply wB); exact rfl)
            refine trim_front a1 b1 (x + 1) (y + 1) (by omega) (by omega) fun a' b' i h1 h2 h3 h4 => ?_
            have := done a' b' (i + 1) (by rw [h1, cnt_cons]) (by simp only [List.length_cons]; omega) (by simp only [List.length_cons]; omega) h4
            rwa [show x + (i + 1) = x + 1 + i by omega, show y + (i + 1) = y + 1 + i by omega] at this
          · rw [show ((u : Int) == v) = false by simpa using e]
            exact h8 e
        | [], _, g, _ => simp at g
        | _, [], _, g2 => simp at g2
      · refine h8 ?_
        cases b with
        | nil => cases a <;> trivial
        | cons v b1 => simp at g2
    · refine h8 ?_
      cases a with
      | nil => trivial
      | cons u a1 => simp at g
theorem head_drop {a2 b2 : List Int} {u v : Int} (h : HeadNe (a2 ++ [u]) (b2 ++ [v])) : HeadNe a2 b2 := by
  cases a2 with
  | nil => trivial
  | cons x a2 =>
    cases b2 with
    | nil => trivial
    | cons y b2 => exact h
theorem ends_two {a2 b2 : List Int} {u v : Int} (h : HeadNe (a2 ++ [u]) (b2 ++ [v])) (hne : u ≠ v) : 2 ≤ cntL (a2 ++ [u]) (b2 ++ [v]) := by
  cases a2 with
  | nil =>
    cases b2 with
    | nil => exact cnt_two (ha := rfl) (hb := rfl) (ha2 := rfl) (hb2 := rfl) h hne
    | cons y b2 => exact cnt_two (a2 := []) (b2 := y :: b2) (ha := rfl) (hb := rfl) (ha2 := rfl) (hb2 := rfl) h hne
  | cons x a2 =>
    cases b2 with
    | nil => exact cnt_two (a2 := x :: a2) (b2 := []) (ha := rfl) (hb := rfl) (ha2 := rfl) (hb2 := rfl) h hne
    | cons y b2 => exact cnt_two (a2 := x :: a2) (b2 := y :: b2) (ha := rfl) (hb := rfl) (ha2 := rfl) (hb2 := rfl) h hne
theorem trim_back {x y : Nat} : ∀ (n : Nat) (a b : List Int), a.length ≤ n → a.length ≤ 16777216 → b.length ≤ 16777216 → HeadNe a b → (∀ a' b', cntL a' b' = cntL a b → a'.length ≤ a.length → b'.length ≤ b.length → (a' = [] ∨ b' = [] ∨ 2 ≤ cntL a' b') → P (.pv (bxP a' b' x y))) → t15 w0 P a b x y
  | n, a, b, hn, ha, hb, hh, done => by
    have h19 : (a = [] ∨ b = [] ∨ 2 ≤ cntL a b) → t19 w0 P a b x y false := by
      intro hne
      refine myers_box_trim.n19_in ?_
      rw [myers_box_trim.b19_eq, condB_false']
      refine myers_box_trim.n24_in ?_
      rw [myers_box_trim.b24_eq]
      repeat ((with_reducible first | apply opt_in | apply wI | apply wT | apply wP | apply wS | apply wB); exact rfl)
      exact fin_keep (Nat.zero_le _) (done a b rfl (Nat.le_refl _) (Nat.le_refl _) hne)
    refine myers_box_trim.n15_in ?_
    rw [myers_box_trim.b16_eq]
    repeat ((with_reducible first | apply opt_in | apply wI | apply wT | apply wP | apply wS | apply wB); exact rfl)
    rw [List.length_map, condB_decide]
    refine ite_split (fun g => ?_) (fun g => ?_)
    · repeat ((with_reducible first | apply opt_in | apply wI | apply wT | apply wP | apply wS | apply wB); exact rfl)
      rw [List.length_map, condB_decide]
      refine ite_split (fun g2 => ?_) (fun g2 => ?_)
      · rcases List.eq_nil_or_concat a with e1 | ⟨a2, u, e1⟩
        · subst e1; simp at g
        rcases List.eq_nil_or_concat b with e2 | ⟨b2, v, e2⟩
        · subst e2; simp at g2
        rw [List.concat_eq_append] at e1 e2
        subst e1; subst e2
        simp only [List.length_append, List.length_singleton] at ha hb hn
        have ea : (a2 ++ [u])[a2.length]? = some u := by simp
        have eb : (b2 ++ [v])[b2.length]? = some v := by simp
        have wa : IntKind.wrap .i64 (((a2 ++ [u]).length : Int) - 1) = (a2.length : Int) := by
          rw [List.length_append, List.length_singleton, wrap_i64 (by omega) (by omega)]; omega
        have wb : IntKind.wrap .i64 (((b2 ++ [v]).length : Int) - 1) = (b2.length : Int) := by
          rw [List.length_append, List.length_singleton, wrap_i64 (by omega) (by omega)]; omega
        repeat ((with_reducible first | apply opt_in | apply wI | apply wT | apply wP | apply wS | apply wB); exact rfl)
        rw [List.length_map, wa]
        refine opt_in (idx_ro tab3 (int_get ea) rfl) ?_
        repeat ((with_reducible first | apply opt_in | apply wI | apply wT | apply wP | apply wS | apply wB); exact rfl)
        rw [List.length_map, wb]
        refine opt_in (idx_ro tab3 (int_get eb) rfl) ?_
        repeat ((with_reducible first | apply opt_in | apply wI | apply wT | apply wP | apply wS | apply wB); exact rfl)
        by_cases e : u = v
        · subst e
          rw [show ((u : Int) == u) = true by simp]
          cases n with
          | zero => omega
          | succ n =>
            refine myers_box_trim.n19_in ?_
            rw [myers_box_trim.b19_eq, condB_true']
            repeat ((with_reducible first | apply opt_in | apply wI | apply wT | apply wP | apply wS | apply wB); exact rfl)
            rw [List.length_map, wa]
            refine opt_in (ints_take (l := a2 ++ [u]) (k := a2.length) (by simp)) ?_
            repeat ((with_reducible first | apply opt_in | apply wI | apply wT | apply wP | apply wS | apply wB); exact rfl)
            rw [List.length_map, wb]
            refine opt_in (ints_take (l := b2 ++ [u]) (k := b2.length) (by simp)) ?_
            repeat ((with_reducible first | apply opt_in | apply wI | apply wT | apply wP | apply wS | apply wB); exact rfl)
            rw [List.take_left, List.take_left]
            exact trim_back n a2 b2 (by omega) (by omega) (by omega) (head_drop hh) fun a' b' h1 h2 h3 h4 => done a' b' (by rw [h1, cnt_snoc]) (by simp only [List.length_append]; omega) (by simp only [List.length_append]; omega) h4
        · rw [show ((u : Int) == v) = false by simpa using e]
          exact h19 (.inr (.inr (ends_two hh e)))
      · refine h19 (.inr (.inl ?_))
        cases b with
        | nil => rfl
        | cons v b1 => simp at g2
    · refine h19 (.inl ?_)
      cases a with
      | nil => rfl
      | cons u a1 => simp at g
theorem trim_spec {R : AV → Store → Prop} (L : Laid w0.w) {a b : List Int} {x y : Nat} (ha : a.length + x ≤ 16777216) (hb : b.length + y ≤ 16777216) (hR : ∀ a' b' i, TrimOut a b a' b' i → R (.pv (bxP a' b' (x + i) (y + i))) σ) : SCalls (cx w0) myers_box_trim.id [.pv (bxP a b x y)] σ R := by
  refine SCalls.some_of (P := fun r => ∃ a' b' i, TrimOut a b a' b' i ∧ r = .pv (bxP a' b' (x + i) (y + i))) L rfl (fun w1 L1 => ?_) (fun r ⟨a', b', i, _, e⟩ => by rw [e]; rfl) (fun r ⟨a', b', i, h, e⟩ => by rw [e]; exact hR a' b' i h)
  refine myers_box_trim.calls ?_
  rw [myers_box_trim.b0_eq]
  refine ⟨rfl, ?_⟩
  refine trim_front (P := fun r => ∃ a' b' i, TrimOut a b a' b' i ∧ r = .pv (bxP a' b' (x + i) (y + i))) a b x y (by omega) (by omega) fun a' b' i h1 h2 h3 h4 => ?_
  refine trim_back a'.length a' b' (Nat.le_refl _) (by omega) (by omega) h4 fun a2 b2 g1 g2 g3 g4 => ?_
  exact ⟨a2, b2, i, ⟨g1.trans h1, by omega, by omega, g4⟩, rfl⟩
end
end Go.Sv
