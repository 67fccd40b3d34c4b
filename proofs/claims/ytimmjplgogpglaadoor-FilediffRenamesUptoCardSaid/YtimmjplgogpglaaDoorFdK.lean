/- What package myers answers: a box without what is alike at its ends. A row from which the last parts are taken: what is left is a row of its own (the variable alone speaks of it). What package myers answers: what goes and what comes, marked. What package myers answers: what goes and what comes, box by box. What package myers answers: what goes and what comes, as many as a shortest script takes out and puts in. -/
import Derived.Test.YtimmjplgogpglaaDoorFdH
import Derived.Test.YtimmjplgogpglaaDoorSvQ
set_option linter.unusedVariables false
set_option linter.unusedSimpArgs false
set_option maxRecDepth 100000
section
namespace Go.Sv
abbrev bxC (a b : List Int) (x y : Nat) : List AV := [intsA a, intsA b, .pv (.int .i64 (x : Int)), .pv (.int .i64 (y : Int))]
abbrev bxP (a b : List Int) (x y : Nat) : PV := .agg [.sl (iP a), .sl (iP b), .int .i64 (x : Int), .int .i64 (y : Int)]
structure TrimOut (a b : List Int) (a' b' : List Int) (i : Nat) : Prop where
  cnt : cntL a' b' = cntL a b
  la : i + a'.length ≤ a.length
  lb : i + b'.length ≤ b.length
  ends : a' = [] ∨ b' = [] ∨ 2 ≤ cntL a' b'
def HeadNe : List Int → List Int → Prop
  | u :: _, v :: _ => u ≠ v
  | _, _ => True
section
open Go Go.RowKit Go.Proofs
variable {w0 : Base} {σ : Store} {P : AV → Prop}
abbrev tmS (a b : List Int) (x y : Nat) : Store := [.cells 115 (bxC a b x y), .cells 115 [.nilsl, .nilsl, .pv (.int .i64 0), .pv (.int .i64 0)]]
abbrev t4 (w0 : Base) (P : AV → Prop) (a b : List Int) (x y : Nat) : Prop := myers_box_trim.n4 (myers_box_trim.X w0 0) w0 0 (fun r _ => P r) (tmS a b x y) (.ptr 0 0) (.ptr 1 0)
abbrev t8 (w0 : Base) (P : AV → Prop) (a b : List Int) (x y : Nat) (q : Bool) : Prop := myers_box_trim.n8 (myers_box_trim.X w0 0) w0 0 (fun r _ => P r) (tmS a b x y) (.ptr 0 0) (.ptr 1 0) q
abbrev t15 (w0 : Base) (P : AV → Prop) (a b : List Int) (x y : Nat) : Prop := myers_box_trim.n15 (myers_box_trim.X w0 0) w0 0 (fun r _ => P r) (tmS a b x y) (.ptr 0 0) (.ptr 1 0)
abbrev t19 (w0 : Base) (P : AV → Prop) (a b : List Int) (x y : Nat) (q : Bool) : Prop := myers_box_trim.n19 (myers_box_trim.X w0 0) w0 0 (fun r _ => P r) (tmS a b x y) (.ptr 0 0) (.ptr 1 0) q
theorem ints_sized : ∀ l : List Int, sized 1 (iP l) = true := by
  intro l
  simp only [sized, List.all_eq_true, List.mem_map]
  rintro x ⟨r, _, rfl⟩
  rfl
theorem ints_drop {l : List Int} {k : Nat} (h : k ≤ l.length) : aSlice σ tabS ti43.td (intsA l) (some (.pv (.int .i64 (k : Int)))) none = some (intsA (l.drop k)) := by
  show (if (0 : Int) ≤ (k : Int) ∧ (k : Int) ≤ (((iP l).length : Nat) : Int) ∧ (((iP l).length : Nat) : Int) ≤ (((iP l).length : Nat) : Int) then (if sized 1 (iP l) = true then some (AV.pv (.sl (((iP l).take (((iP l).length : Nat) : Int).toNat).drop (k : Int).toNat))) else none) else none) = _
  rw [if_pos (by rw [List.length_map]; omega), if_pos (ints_sized l)]
  simp [List.take_of_length_le]
theorem ints_take {l : List Int} {k : Nat} (h : k ≤ l.length) : aSlice σ tabS ti43.td (intsA l) none (some (.pv (.int .i64 (k : Int)))) = some (intsA (l.take k)) := by
  show (if (0 : Int) ≤ 0 ∧ (0 : Int) ≤ (k : Int) ∧ (k : Int) ≤ (((iP l).length : Nat) : Int) then (if sized 1 (iP l) = true then some (AV.pv (.sl (((iP l).take (k : Int).toNat).drop (0 : Int).toNat))) else none) else none) = _
  rw [if_pos (by rw [List.length_map]; omega), if_pos (ints_sized l)]
  simp
theorem trim_front : ∀ (a b : List Int) (x y : Nat), a.length + x ≤ 16777216 → b.length + y ≤ 16777216 → (∀ a' b' i, cntL a' b' = cntL a b → i + a'.length = a.length → i + b'.length = b.length → HeadNe a' b' → t15 w0 P a' b' (x + i) (y + i)) → t4 w0 P a b x y
  | a, b, x, y, hx, hy, done => by
    have h8 : HeadNe a b → t8 w0 P a b x y false := by
      intro hne
      refine myers_box_trim.n8_in ?_
      rw [myers_box_trim.b8_eq, condB_false']
      refine myers_box_trim.n13_in ?_
      rw [myers_box_trim.b13_eq]
      exact done a b 0 rfl (Nat.zero_add _) (Nat.zero_add _) hne
    refine myers_box_trim.n4_in ?_
    rw [myers_box_trim.b5_eq]
    repeat ((with_reducible first | apply opt_in | apply wI | apply wT | apply wP | apply wS | apply wB); exact rfl)
    rw [List.length_map, condB_decide]
    refine ite_split (fun g => ?_) (fun g => ?_)
    · repeat ((with_reducible first | apply opt_in | apply wI | apply wT | apply wP | apply wS | apply wB); exact rfl)
      rw [List.length_map, condB_decide]
      refine ite_split (fun g2 => ?_) (fun g2 => ?_)
      · match a, b, g, g2 with
        | u :: a1, v :: b1, g, g2 =>
          repeat ((with_reducible first | apply opt_in | apply wI | apply wT | apply wP | apply wS | apply wB); exact rfl)
          refine opt_in (idx_ro (k := 0) tab3 (show (iP (u :: a1))[0]? = some (intP u) from rfl) rfl) ?_
          repeat ((with_reducible first | apply opt_in | apply wI | apply wT | apply wP | apply wS | apply wB); exact rfl)
          refine opt_in (idx_ro (k := 0) tab3 (show (iP (v :: b1))[0]? = some (intP v) from rfl) rfl) ?_
          repeat ((with_reducible first | apply opt_in | apply wI | apply wT | apply wP | apply wS | apply wB); exact rfl)
          by_cases e : u = v
          · subst e
            rw [show ((u : Int) == u) = true by simp]
            refine myers_box_trim.n8_in ?_
            rw [myers_box_trim.b8_eq, condB_true']
            repeat ((with_reducible first | apply opt_in | apply wI | apply wT | apply wP | apply wS | apply wB); exact rfl)
            refine opt_in (ints_drop (k := 1) (by simp)) ?_
            repeat ((with_reducible first | apply opt_in | apply wI | apply wT | apply wP | apply wS | apply wB); exact rfl)
            refine opt_in (ints_drop (k := 1) (by simp)) ?_
            repeat ((with_reducible first | apply opt_in | apply wI | apply wT | apply wP | apply wS | apply wB); exact rfl)
            simp only [List.length_cons] at hx hy
            rw [wrap_next (n := 16777217) (by omega) (by omega), wrap_next (n := 16777217) (by omega) (by omega)]
            repeat ((with_reducible first | apply opt_in | apply wI | apply wT | apply wP | apply wS | apply wB); exact rfl)
            refine trim_front a1 b1 (x + 1) (y + 1) (by omega) (by omega) fun a' b' i h1 h2 h3 h4 => ?_
            have := done a' b' (i + 1) (by rw [h1, cnt_cons]) (by simp only [List.length_cons]; omega) (by simp only [List.length_cons]; omega) h4
            rwa [show x + (i + 1) = x + 1 + i by omega, show y + (i + 1) = y + 1 + i by omega] at this
          · rw [show ((u : Int) == v) = false by simpa using e]
            exact h8 e
        | [], _, g, _ => simp at g
        | _, [], _, g2 => simp at g2
      · refine h8 ?_
        cases b with
        | nil => cases a <;> trivial
        | cons v b1 => simp at g2
    · refine h8 ?_
      cases a with
      | nil => trivial
      | cons u a1 => simp at g
theorem head_drop {a2 b2 : List Int} {u v : Int} (h : HeadNe (a2 ++ [u]) (b2 ++ [v])) : HeadNe a2 b2 := by
  cases a2 with
  | nil => trivial
  | cons x a2 =>
    cases b2 with
    | nil => trivial
    | cons y b2 => exact h
theorem ends_two {a2 b2 : List Int} {u v : Int} (h : HeadNe (a2 ++ [u]) (b2 ++ [v])) (hne : u ≠ v) : 2 ≤ cntL (a2 ++ [u]) (b2 ++ [v]) := by
  cases a2 with
  | nil =>
    cases b2 with
    | nil => exact cnt_two (ha := rfl) (hb := rfl) (ha2 := rfl) (hb2 := rfl) h hne
    | cons y b2 => exact cnt_two (a2 := []) (b2 := y :: b2) (ha := rfl) (hb := rfl) (ha2 := rfl) (hb2 := rfl) h hne
  | cons x a2 =>
    cases b2 with
    | nil => exact cnt_two (a2 := x :: a2) (b2 := []) (ha := rfl) (hb := rfl) (ha2 := rfl) (hb2 := rfl) h hne
    | cons y b2 => exact cnt_two (a2 := x :: a2) (b2 := y :: b2) (ha := rfl) (hb := rfl) (ha2 := rfl) (hb2 := rfl) h hne
theorem trim_back {x y : Nat} : ∀ (n : Nat) (a b : List Int), a.length ≤ n → a.length ≤ 16777216 → b.length ≤ 16777216 → HeadNe a b → (∀ a' b', cntL a' b' = cntL a b → a'.length ≤ a.length → b'.length ≤ b.length → (a' = [] ∨ b' = [] ∨ 2 ≤ cntL a' b') → P (.pv (bxP a' b' x y))) → t15 w0 P a b x y
  | n, a, b, hn, ha, hb, hh, done => by
    have h19 : (a = [] ∨ b = [] ∨ 2 ≤ cntL a b) → t19 w0 P a b x y false := by
      intro hne
      refine myers_box_trim.n19_in ?_
      rw [myers_box_trim.b19_eq, condB_false']
      refine myers_box_trim.n24_in ?_
      rw [myers_box_trim.b24_eq]
      repeat ((with_reducible first | apply opt_in | apply wI | apply wT | apply wP | apply wS | apply wB); exact rfl)
      exact fin_keep (Nat.zero_le _) (done a b rfl (Nat.le_refl _) (Nat.le_refl _) hne)
    refine myers_box_trim.n15_in ?_
    rw [myers_box_trim.b16_eq]
    repeat ((with_reducible first | apply opt_in | apply wI | apply wT | apply wP | apply wS | apply wB); exact rfl)
    rw [List.length_map, condB_decide]
    refine ite_split (fun g => ?_) (fun g => ?_)
    · repeat ((with_reducible first | apply opt_in | apply wI | apply wT | apply wP | apply wS | apply wB); exact rfl)
      rw [List.length_map, condB_decide]
      refine ite_split (fun g2 => ?_) (fun g2 => ?_)
      · rcases List.eq_nil_or_concat a with e1 | ⟨a2, u, e1⟩
        · subst e1; simp at g
        rcases List.eq_nil_or_concat b with e2 | ⟨b2, v, e2⟩
        · subst e2; simp at g2
        rw [List.concat_eq_append] at e1 e2
        subst e1; subst e2
        simp only [List.length_append, List.length_singleton] at ha hb hn
        have ea : (a2 ++ [u])[a2.length]? = some u := by simp
        have eb : (b2 ++ [v])[b2.length]? = some v := by simp
        have wa : IntKind.wrap .i64 (((a2 ++ [u]).length : Int) - 1) = (a2.length : Int) := by
          rw [List.length_append, List.length_singleton, wrap_i64 (by omega) (by omega)]; omega
        have wb : IntKind.wrap .i64 (((b2 ++ [v]).length : Int) - 1) = (b2.length : Int) := by
          rw [List.length_append, List.length_singleton, wrap_i64 (by omega) (by omega)]; omega
        repeat ((with_reducible first | apply opt_in | apply wI | apply wT | apply wP | apply wS | apply wB); exact rfl)
        rw [List.length_map, wa]
        refine opt_in (idx_ro tab3 (int_get ea) rfl) ?_
        repeat ((with_reducible first | apply opt_in | apply wI | apply wT | apply wP | apply wS | apply wB); exact rfl)
        rw [List.length_map, wb]
        refine opt_in (idx_ro tab3 (int_get eb) rfl) ?_
        repeat ((with_reducible first | apply opt_in | apply wI | apply wT | apply wP | apply wS | apply wB); exact rfl)
        by_cases e : u = v
        · subst e
          rw [show ((u : Int) == u) = true by simp]
          cases n with
          | zero => omega
          | succ n =>
            refine myers_box_trim.n19_in ?_
            rw [myers_box_trim.b19_eq, condB_true']
            repeat ((with_reducible first | apply opt_in | apply wI | apply wT | apply wP | apply wS | apply wB); exact rfl)
            rw [List.length_map, wa]
            refine opt_in (ints_take (l := a2 ++ [u]) (k := a2.length) (by simp)) ?_
            repeat ((with_reducible first | apply opt_in | apply wI | apply wT | apply wP | apply wS | apply wB); exact rfl)
            rw [List.length_map, wb]
            refine opt_in (ints_take (l := b2 ++ [u]) (k := b2.length) (by simp)) ?_
            repeat ((with_reducible first | apply opt_in | apply wI | apply wT | apply wP | apply wS | apply wB); exact rfl)
            rw [List.take_left, List.take_left]
            exact trim_back n a2 b2 (by omega) (by omega) (by omega) (head_drop hh) fun a' b' h1 h2 h3 h4 => done a' b' (by rw [h1, cnt_snoc]) (by simp only [List.length_append]; omega) (by simp only [List.length_append]; omega) h4
        · rw [show ((u : Int) == v) = false by simpa using e]
          exact h19 (.inr (.inr (ends_two hh e)))
      · refine h19 (.inr (.inl ?_))
        cases b with
        | nil => rfl
        | cons v b1 => simp at g2
    · refine h19 (.inl ?_)
      cases a with
      | nil => rfl
      | cons u a1 => simp at g
theorem trim_spec {R : AV → Store → Prop} (L : Laid w0.w) {a b : List Int} {x y : Nat} (ha : a.length + x ≤ 16777216) (hb : b.length + y ≤ 16777216) (hR : ∀ a' b' i, TrimOut a b a' b' i → R (.pv (bxP a' b' (x + i) (y + i))) σ) : SCalls (cx w0) myers_box_trim.id [.pv (bxP a b x y)] σ R := by
  refine SCalls.some_of (P := fun r => ∃ a' b' i, TrimOut a b a' b' i ∧ r = .pv (bxP a' b' (x + i) (y + i))) L rfl (fun w1 L1 => ?_) (fun r ⟨a', b', i, _, e⟩ => by rw [e]; rfl) (fun r ⟨a', b', i, h, e⟩ => by rw [e]; exact hR a' b' i h)
  refine myers_box_trim.calls ?_
  rw [myers_box_trim.b0_eq]
  refine ⟨rfl, ?_⟩
  refine trim_front (P := fun r => ∃ a' b' i, TrimOut a b a' b' i ∧ r = .pv (bxP a' b' (x + i) (y + i))) a b x y (by omega) (by omega) fun a' b' i h1 h2 h3 h4 => ?_
  refine trim_back a'.length a' b' (Nat.le_refl _) (by omega) (by omega) h4 fun a2 b2 g1 g2 g3 g4 => ?_
  exact ⟨a2, b2, i, ⟨g1.trans h1, by omega, by omega, g4⟩, rfl⟩
end
end Go.Sv
end
section
namespace Go.Sv
open Go Go.RowKit
theorem EWeak.pop {C : Ctx} {n : Nat} {env env' : Env} {σ : Store} {t id es ver k : Nat} {xs : List PV} (ho : σ[id]? = some (.arr es xs false)) (hv : xs.length = ver) (hne : xs ≠ []) (ht : getE env t = .arr id ver 0 k) (he : env' = putE env t (.arr σ.length k 0 k)) :
    EWeak C n env σ env' (σ.set id .gone ++ [.arr es (xs.take k) false]) := by
  intro hn m K w vs hB hE
  have hlt := (List.getElem?_eq_some_iff.1 ho).1
  obtain ⟨hver, hoo⟩ := hB.obj id _ ho
  rcases hoo with ⟨e0, _⟩ | ⟨b, cap, arr, ty, fr, hm, hh, h1, h2, h3, h4, h5, h6, h7⟩
  · exact absurd e0 hne
  have hE0 := hE t
  rw [ht] at hE0
  revert hE0
  generalize hg : vs.getD t undef = x0
  intro hE0
  have hpos : 0 < xs.length := List.length_pos_iff.2 hne
  have hk : k ≤ ver ∧ ∃ c a, x0 = .slice a k c ∧ c = cap ∧ (c = 0 ∨ a = some ⟨b, 0, none⟩) := by
    cases hE0 with
    | arr _ _ _ _ b' cap' es' c a h hc hl hv' ha =>
      rw [← hv, hm] at h
      cases h
      exact ⟨by omega, c, a, rfl, by omega, by simpa using ha⟩
    | arrNil _ _ => omega
  obtain ⟨hk, c0, a0, hx0, hc0, ha0⟩ := hk
  rw [← hv] at hk
  have hnone : ∀ v, m σ.length v = none := fun v => by
    cases h : m σ.length v with
    | none => rfl
    | some l => exact absurd (hB.dom _ _ _ h) (Nat.lt_irrefl _)
  have hB1 := hB.away hlt
  have hl1 : (σ.set id SObj.gone).length = σ.length := List.length_set ..
  have hx : ∀ i v l, m i v = some l → setMp m σ.length k (.at b cap es) i v = some l := setMp_new (hnone k)
  have hlk : (xs.take k).length = k := by rw [List.length_take, Nat.min_eq_left hk]
  refine ⟨setMp m σ.length k (.at b cap es), K, hB1.step σ.length (.arr es (xs.take k) false) (fun i x h => ?_) (by simp) (by simp) hx (fun i h => setMp_other _ _ _ _ _ h) hB.below (fun _ _ _ _ => rfl) (fun _ _ _ _ _ _ => rfl) ?_ ?_ ?_, fun u => ?_, Ext.le ⟨hx, fun _ _ _ h => h⟩ n, by simp; omega⟩
  · have := get_append_new h
    rwa [hl1] at this
  · refine ⟨fun ver l h => ?_, .inr ⟨b, cap, arr, ty, fr, by rw [hlk]; exact setMp_same _ _ _ _, hh, by omega, h2, h3, fun x hx => h4 x (List.mem_of_mem_take hx), fun j p v hp hv => h5 j p v (flat_take_get hp) hv, fun j g1 g2 => h6 j (by simp) g2, fun j v hK => ?_⟩⟩
    · unfold setMp at h
      split at h
      · rename_i e; rw [hlk]; exact Nat.le_of_eq e.2
      · rw [hnone] at h; cases h
    · exact absurd (h7 j v hK).1 (by decide)
  · intro c hc
    simp only [blk, hlk, setMp_same, Loc.blk, List.mem_singleton] at hc
    subst hc
    exact hB.base id _ c ho (by simp [blk, hm, Loc.blk])
  · intro c hc i x hne' hi hcx
    simp only [blk, hlk, setMp_same, Loc.blk, List.mem_singleton] at hc
    subst hc
    by_cases e : i = id
    · subst e
      rw [List.getElem?_set_self hlt] at hi
      cases hi
      simp [blk] at hcx
    · rw [List.getElem?_set_ne (Ne.symm e)] at hi
      exact e (hB.apart i x id _ c hi ho hcx (by simp [blk, hm, Loc.blk]))
  · subst he
    rw [getE_putE]
    have hext : Ext m K (setMp m σ.length k (.at b cap es)) K := ⟨hx, fun _ _ _ h => h⟩
    split
    · rename_i e; subst e
      rw [hg, hx0]
      exact .arr σ.length k 0 k b cap es c0 a0 (setMp_same _ _ _ _) (by omega) (by omega) (by omega) (by simpa using ha0)
    · exact (hE u).mono hext
theorem EWeak.shift {C : Ctx} (hC : ∀ g a, C.glob g = some a → AV.under 0 a = true) {n : Nat} {env env' : Env} {σ τ : Store} {t id k es ver len : Nat} {xs : List PV} (hn : n ≤ k) (hk : k ≤ id) (ho : σ[id]? = some (.arr es xs false)) (hv : xs.length = ver) (hpos : 0 < ver) (ht : getE env t = .arr id ver 0 len) (hτ : τ = σ.take k) (hu : storeUnder k τ = true) (he : envUnder k (putE env t .dead) = true) (he' : env' = putE env t (.arr k ver 0 len)) :
    EWeak C n env σ env' (τ ++ [.arr es xs false]) := by
  intro _ m K w vs hB hE
  have hlt := (List.getElem?_eq_some_iff.1 ho).1
  have hc := hB.cut hτ (by omega) hu (fun g a hga => under_mono (Nat.zero_le _) a (hC g a hga))
  have hlen : τ.length = k := by rw [hτ, List.length_take]; omega
  obtain ⟨hver, hoo⟩ := hB.obj id _ ho
  rcases hoo with ⟨e0, _⟩ | ⟨b, cap, arr, ty, fr, hm, hh, h1, h2, h3, h4, h5, h6, h7⟩
  · rw [e0] at hv; simp at hv; omega
  have hnone : ∀ v, cutMp m k k v = none := fun v => by simp [cutMp]
  have hx : ∀ i v l, cutMp m k i v = some l → setMp (cutMp m k) k ver (.at b cap es) i v = some l := setMp_new (hnone ver)
  have hext : Ext (cutMp m k) K (setMp (cutMp m k) k ver (.at b cap es)) K := ⟨hx, fun _ _ _ h => h⟩
  refine ⟨setMp (cutMp m k) k ver (.at b cap es), K, hc.step k (.arr es xs false) (fun i x h => ?_) (by simp) (by simp; omega) hx (fun i h => setMp_other _ _ _ _ _ h) hB.below (fun _ _ _ _ => rfl) (fun _ _ _ _ _ _ => rfl) ?_ ?_ ?_, fun u => ?_, ((cut_le m K k).less hn).trans (hext.le n), by simp; omega⟩
  · have := get_append_new h
    rwa [hlen] at this
  · refine ⟨fun v l h => ?_, .inr ⟨b, cap, arr, ty, fr, by rw [hv]; exact setMp_same _ _ _ _, hh, h1, h2, h3, h4, h5, h6, h7⟩⟩
    unfold setMp at h
    split at h
    · rename_i e; rw [hv]; exact Nat.le_of_eq e.2
    · rw [hnone] at h; cases h
  · intro c hcb
    simp only [blk, hv, setMp_same, Loc.blk, List.mem_singleton] at hcb
    subst hcb
    exact hB.base id _ c ho (by simp [blk, hm, Loc.blk])
  · intro c hcb i x hne hi hcx
    simp only [blk, hv, setMp_same, Loc.blk, List.mem_singleton] at hcb
    subst hcb
    have hik : i < k := by
      have := (List.getElem?_eq_some_iff.1 hi).1
      omega
    have hsi : σ[i]? = some x := by
      rw [hτ, List.getElem?_take, if_pos hik] at hi
      exact hi
    have hmi : cutMp m k i = m i := by funext v; simp [cutMp, hik]
    have hbx : blk (cutMp m k) i x = blk m i x := by
      cases x <;> simp [blk, hmi]
    rw [hbx] at hcx
    have := hB.apart i x id _ c hsi ho hcx (by simp [blk, hm, Loc.blk])
    omega
  · subst he'
    rw [getE_putE]
    split
    · rename_i e; subst e
      have hE0 := hE t
      rw [ht] at hE0
      revert hE0
      generalize vs.getD t undef = x0
      intro hE0
      cases hE0 with
      | arr _ _ _ _ b' cap' es' c a h hc' hl hv' ha =>
        rw [← hv, hm] at h
        cases h
        exact .arr k ver 0 len b cap es c a (setMp_same _ _ _ _) hc' hl hv' ha
      | arrNil _ _ => omega
    · rename_i hne
      have hun := envUnder_get he u
      rw [getE_putE, if_neg hne] at hun
      exact ((hE u).cut hun).mono hext
end Go.Sv
end
section
namespace Go.Sv
abbrev boP (l : List Bool) : List PV := l.map PV.bool
abbrev bxQ (p : Bx) : PV := bxP p.a p.b p.x p.y
section
open Go Go.RowKit Go.Proofs
variable {w0 : Base} {σ : Store} {P : AV → Prop} {a b : List Int}
abbrev mkS (a b : List Int) (G C : List Bool) (zs : List Bx) : Store := [.cells 107 [.nilsl, .nilsl], .arr 1 (boP G) false, .arr 1 (boP C) false, .cells 107 [.arr 1 a.length 0 a.length, .arr 2 b.length 0 b.length], .arr 4 (zs.map bxQ) false]
abbrev m8 (w0 : Base) (P : AV → Prop) (a b : List Int) (G C : List Bool) (zs : List Bx) (len : Nat) : Prop := myers_mark.n8 (myers_mark.X w0 0) w0 0 (fun r _ => P r) (mkS a b G C zs) (.ptr 0 0) (.ptr 3 0) (.arr 4 zs.length 0 len)
theorem bx_idx {i ver len : Nat} {zs : List Bx} {fz : Bool} (ho : σ[i]? = some (.arr 4 (zs.map bxQ) fz)) (hl : zs.length = ver) {j : Nat} (hj : j < len) : aIndexAddr σ tabS ti116.td (.arr i ver 0 len) (j : Int) = some (.eptr i ver j 0) := by
  show (match σ[i]? with
    | some (.arr es xs _) => if 0 ≤ (j : Int) ∧ (j : Int) < (len : Nat) ∧ es = 4 ∧ xs.length = ver then some (AV.eptr i ver (0 + (j : Int).toNat) 0) else none
    | _ => none) = _
  rw [ho]
  simp only
  rw [if_pos ⟨by omega, by omega, trivial, by rw [List.length_map]; exact hl⟩]
  simp
theorem bx_load {i ver : Nat} {zs : List Bx} {fz : Bool} (ho : σ[i]? = some (.arr 4 (zs.map bxQ) fz)) (hl : zs.length = ver) {j : Nat} {p : Bx} (hj : zs[j]? = some p) : aLoad σ ti115 (.eptr i ver j 0) = some (.pv (bxQ p)) := by
  have hg : (zs.map bxQ)[j]? = some (bxQ p) := by rw [List.getElem?_map, hj]; rfl
  have hv : (zs.map bxQ).length = ver := by rw [List.length_map]; exact hl
  simp only [aLoad, ho, if_pos hv, hg]
  rfl
theorem bx_cut {i ver len k : Nat} {zs : List Bx} {fz : Bool} (ho : σ[i]? = some (.arr 4 (zs.map bxQ) fz)) (hl : zs.length = ver) (hk : k ≤ len) : aSlice σ tabS ti116.td (.arr i ver 0 len) none (some (.pv (.int .i64 (k : Int)))) = some (.arr i ver 0 k) := by
  show (if (0 : Int) ≤ 0 ∧ (0 : Int) ≤ (k : Int) ∧ (k : Int) ≤ ((len : Nat) : Int) then (match tabS 115, σ[i]? with
    | some ei, some (.arr es xs _) => if xs.length = ver ∧ es = ei.size then some (AV.arr i ver (0 + (0 : Int).toNat) ((k : Int) - 0).toNat) else none
    | _, _ => none) else none) = _
  rw [if_pos (by omega), ho, tab115]
  simp only
  rw [if_pos ⟨by rw [List.length_map]; exact hl, rfl⟩]
  simp
theorem bo_idx {i s : Nat} {c : List Bool} {fz : Bool} (ho : σ[i]? = some (.arr 1 (boP c) fz)) (hl : c.length = s) {j : Nat} (hj : j < s) : aIndexAddr σ tabS ti58.td (.arr i s 0 s) (j : Int) = some (.eptr i s j 0) := by
  show (match σ[i]? with
    | some (.arr es xs _) => if 0 ≤ (j : Int) ∧ (j : Int) < (s : Nat) ∧ es = 1 ∧ xs.length = s then some (AV.eptr i s (0 + (j : Int).toNat) 0) else none
    | _ => none) = _
  rw [ho]
  simp only
  rw [if_pos ⟨by omega, by omega, trivial, by rw [List.length_map]; exact hl⟩]
  simp
theorem bo_store {i s : Nat} {c : List Bool} (ho : σ[i]? = some (.arr 1 (boP c) false)) (hl : c.length = s) {j : Nat} {v v' : Bool} (hj : c[j]? = some v) : aStore σ ti4 (.eptr i s j 0) (.pv (.bool v')) = some (σ.set i (.arr 1 (boP (c.set j v')) false)) := by
  have hg : (boP c)[j]? = some (PV.bool v) := by rw [List.getElem?_map, hj]; rfl
  show (if 1 = 1 ∧ true = true then (match σ[i]?, some [PV.bool v'] with
      | some (.arr es xs false), some ps =>
        if xs.length = s then match xs[j]? with
          | some (.agg cs) => if 0 + ps.length ≤ cs.length then some (σ.set i (.arr es (xs.set j (.agg (splice cs 0 ps))) false)) else none
          | some _ => match ps with
            | [q] => if 0 = 0 then some (σ.set i (.arr es (xs.set j q) false)) else none
            | _ => none
          | none => none
        else none
      | _, _ => none) else none) = _
  rw [if_pos ⟨rfl, rfl⟩, ho]
  simp only [if_pos (show (boP c).length = s by rw [List.length_map]; exact hl), hg]
  simp only [if_true]
  rw [show (boP c).set j (PV.bool v') = boP (c.set j v') from List.map_set.symm]
abbrev mkS5 (a b : List Int) (G C : List Bool) (zs : List Bx) (p : Bx) : Store := mkS a b G C zs ++ [.cells 115 (bxC p.a p.b p.x p.y)]
theorem come_loop {G : List Bool} {zs : List Bx} {p : Bx} {len : Nat} (hb : b.length ≤ 4194304) (hy : p.y + p.b.length ≤ b.length) {C0 : List Bool} (hC : C0.length = b.length) (next : m8 w0 P a b G (setN C0 p.y p.b.length) zs len) : ∀ (f k : Nat), k + f = p.b.length →
    myers_mark.n45 (myers_mark.X w0 0) w0 0 (fun r _ => P r) (mkS5 a b G (setN C0 p.y k) zs p) (.ptr 0 0) (.ptr 3 0) (.arr 4 zs.length 0 len) (.ptr 5 0) (p.b.length : Nat) (k : Nat)
  | 0, k, hk => by
    refine myers_mark.n45_in ?_
    rw [myers_mark.b46_eq, condB_decide, if_neg (by omega)]
    refine myers_mark.n58_in ?_
    rw [myers_mark.b58_eq]
    rw [show k = p.b.length by omega]
    exact myers_mark.n8_weak (EWeak.drop (τ := mkS a b G (setN C0 p.y p.b.length) zs) glob0 (Nat.zero_le _) rfl rfl) next
  | f + 1, k, hk => by
    have hl := setN_len C0 p.y k
    have hlt : p.y + k < b.length := by omega
    have hg : (setN C0 p.y k)[p.y + k]? = some ((setN C0 p.y k)[p.y + k]'(by rw [hl, hC]; exact hlt)) := List.getElem?_eq_getElem _
    refine myers_mark.n45_in ?_
    rw [myers_mark.b46_eq, condB_decide, if_pos (by omega)]
    repeat ((with_reducible first | apply opt_in | apply wI | apply wT | apply wP | apply wS | apply wB); exact rfl)
    rw [show IntKind.wrap .i64 ((p.y : Int) + (k : Int)) = ((p.y + k : Nat) : Int) by rw [wrap_i64 (by omega) (by omega)]; omega]
    refine opt_in (bo_idx (σ := mkS5 a b G (setN C0 p.y k) zs p) (i := 2) (c := setN C0 p.y k) (fz := false) rfl (by rw [hl]; exact hC) hlt) ?_
    refine opt_in (bo_store (σ := mkS5 a b G (setN C0 p.y k) zs p) (i := 2) (c := setN C0 p.y k) rfl (by rw [hl]; exact hC) hg) ?_
    rw [wrap_next (n := p.b.length) (by omega) (by omega)]
    exact come_loop hb hy hC next f (k + 1) (by omega)
theorem gone_loop {C : List Bool} {zs : List Bx} {p : Bx} {len : Nat} (ha : a.length ≤ 4194304) (hb : b.length ≤ 4194304) (hx : p.x + p.a.length ≤ a.length) (hy : p.y + p.b.length ≤ b.length) {G0 : List Bool} (hG : G0.length = a.length) (hC : C.length = b.length) (next : m8 w0 P a b (setN G0 p.x p.a.length) (setN C p.y p.b.length) zs len) : ∀ (f k : Nat), k + f = p.a.length →
    myers_mark.n28 (myers_mark.X w0 0) w0 0 (fun r _ => P r) (mkS5 a b (setN G0 p.x k) C zs p) (.ptr 0 0) (.ptr 3 0) (.arr 4 zs.length 0 len) (.ptr 5 0) (p.a.length : Nat) (k : Nat)
  | 0, k, hk => by
    refine myers_mark.n28_in ?_
    rw [myers_mark.b29_eq, condB_decide, if_neg (by omega)]
    refine myers_mark.n41_in ?_
    rw [myers_mark.b41_eq, show k = p.a.length by omega]
    repeat ((with_reducible first | apply opt_in | apply wI | apply wT | apply wP | apply wS | apply wB); exact rfl)
    rw [List.length_map]
    exact come_loop (C0 := C) hb hy hC next p.b.length 0 (by omega)
  | f + 1, k, hk => by
    have hl := setN_len G0 p.x k
    have hlt : p.x + k < a.length := by omega
    have hg : (setN G0 p.x k)[p.x + k]? = some ((setN G0 p.x k)[p.x + k]'(by rw [hl, hG]; exact hlt)) := List.getElem?_eq_getElem _
    refine myers_mark.n28_in ?_
    rw [myers_mark.b29_eq, condB_decide, if_pos (by omega)]
    repeat ((with_reducible first | apply opt_in | apply wI | apply wT | apply wP | apply wS | apply wB); exact rfl)
    rw [show IntKind.wrap .i64 ((p.x : Int) + (k : Int)) = ((p.x + k : Nat) : Int) by rw [wrap_i64 (by omega) (by omega)]; omega]
    refine opt_in (bo_idx (σ := mkS5 a b (setN G0 p.x k) C zs p) (i := 1) (c := setN G0 p.x k) (fz := false) rfl (by rw [hl]; exact hG) hlt) ?_
    refine opt_in (bo_store (σ := mkS5 a b (setN G0 p.x k) C zs p) (i := 1) (c := setN G0 p.x k) rfl (by rw [hl]; exact hG) hg) ?_
    rw [wrap_next (n := p.a.length) (by omega) (by omega)]
    exact gone_loop ha hb hx hy hG hC next f (k + 1) (by omega)
end
end Go.Sv
end
section
namespace Go.Sv
theorem fuelB_one (p : Bx) : 1 ≤ fuelB p := by unfold fuelB; split <;> omega
theorem fuelB_le {p p' : Bx} (h : p'.a.length + p'.b.length ≤ p.a.length + p.b.length) : fuelB p' ≤ fuelB p := by unfold fuelB; split <;> split <;> omega
theorem fuelB_split {p q r : Bx} (h1 : 1 ≤ q.a.length + q.b.length) (h2 : 1 ≤ r.a.length + r.b.length) (h : (q.a.length + q.b.length) + (r.a.length + r.b.length) ≤ p.a.length + p.b.length) : fuelB q + fuelB r < fuelB p := by
  unfold fuelB
  rw [if_neg (by omega), if_neg (by omega), if_neg (by omega)]
  omega
theorem fuelS_cons (p : Bx) (st : List Bx) : fuelS (p :: st) = fuelB p + fuelS st := by unfold fuelS; simp
theorem fuelS_len : ∀ st : List Bx, st.length ≤ fuelS st
  | [] => Nat.zero_le _
  | p :: st => by
    rw [fuelS_cons]
    have := fuelS_len st
    have := fuelB_one p
    simp only [List.length_cons]; omega
theorem take_rev {zs : List Bx} {l : Nat} {p : Bx} (h : zs[l]? = some p) : (zs.take (l + 1)).reverse = p :: (zs.take l).reverse := by
  have hl := (List.getElem?_eq_some_iff.1 h).1
  rw [List.take_add_one, h]
  simp
section
open Go Go.RowKit Go.Proofs
variable {w0 : Base} {σ : Store} {P : AV → Prop} {a b : List Int}
theorem app_cut {G C : List Bool} {zs : List Bx} {p B1 B2 : Bx} {l : Nat} (hl : l ≤ zs.length) (h0 : 0 < zs.length) (hb : l ≤ 1099511627776) :
    aAppendB true (mkS5 a b G C zs p) ti115 (.arr 4 zs.length 0 l) (.pv (.sl [bxQ B1, bxQ B2])) = some (.arr 6 (l + 2) 0 (l + 2), [.cells 107 [.nilsl, .nilsl], .arr 1 (boP G) false, .arr 1 (boP C) false, .cells 107 [.arr 1 a.length 0 a.length, .arr 2 b.length 0 b.length], .gone, .cells 115 (bxC p.a p.b p.x p.y), .arr 4 ((zs.take l ++ [B1, B2]).map bxQ) false]) := by
  show (if (zs.map bxQ).length = zs.length ∧ 0 < zs.length ∧ l ≤ zs.length then aAppend (popS (mkS5 a b G C zs p) 4 4 (zs.map bxQ) l) ti115 (.arr 6 l 0 l) (.pv (.sl [bxQ B1, bxQ B2])) else none) = _
  rw [if_pos ⟨List.length_map _, h0, hl⟩]
  have hlen : ((zs.map bxQ).take l).length = l := by rw [List.length_take, List.length_map]; omega
  have := append_pv (σ := popS (mkS5 a b G C zs p) 4 4 (zs.map bxQ) l) (id := 6) (es := 4) (ver := l) (xs := (zs.map bxQ).take l) (ys := [bxQ B1, bxQ B2]) (fz := false) (ei := ti115) (x := .pv (.sl [bxQ B1, bxQ B2])) rfl rfl hlen.symm rfl rfl ⟨by rw [hlen]; show l + 2 ≤ _; omega, by rw [hlen]; show (l + 2) * 64 ≤ _; omega⟩
  rw [this, hlen, show (zs.map bxQ).take l ++ [bxQ B1, bxQ B2] = (zs.take l ++ [B1, B2]).map bxQ by rw [List.map_append, List.map_take]; rfl]
  rfl
theorem cnt_len (a b : List Int) (h : 1 ≤ cntL a b) : 1 ≤ a.length + b.length := Nat.le_trans h (cnt_facts a b).1
theorem mark60 (L : Laid w0.w) {G C : List Bool} {zs : List Bx} {p : Bx} {l : Nat} (ha : p.a.length ≤ 4194304) (hb : p.b.length ≤ 4194304) (hx : p.x ≤ 4194304) (hy : p.y ≤ 4194304) (hl : l ≤ zs.length) (h0 : 0 < zs.length) (hlb : l ≤ 1099511627776) (two : 2 ≤ cntL p.a p.b)
    (next : ∀ s t x y, SnakeOut p.a p.b s t x y → m8 w0 P a b G C (zs.take l ++ [⟨p.a.take s, p.b.take t, p.x, p.y⟩, ⟨p.a.drop x, p.b.drop y, p.x + x, p.y + y⟩]) (l + 2)) :
    myers_mark.n60 (myers_mark.X w0 0) w0 0 (fun r _ => P r) (mkS5 a b G C zs p) (.ptr 0 0) (.ptr 3 0) (.arr 4 zs.length 0 l) (.ptr 5 0) := by
  refine myers_mark.n60_in ?_
  rw [myers_mark.b60_eq]
  repeat ((with_reducible first | apply opt_in | apply wI | apply wT | apply wP | apply wS | apply wB); exact rfl)
  refine snake_spec L ha hb two fun s t x y so => ?_
  have nx := next s t x y so
  obtain ⟨s1, s2, s3, s4, _, _, _⟩ := so
  repeat ((with_reducible first | apply opt_in | apply wI | apply wT | apply wP | apply wS | apply wB); exact rfl)
  refine opt_in (ints_take (l := p.a) (k := s) (by omega)) ?_
  repeat ((with_reducible first | apply opt_in | apply wI | apply wT | apply wP | apply wS | apply wB); exact rfl)
  refine opt_in (ints_take (l := p.b) (k := t) (by omega)) ?_
  repeat ((with_reducible first | apply opt_in | apply wI | apply wT | apply wP | apply wS | apply wB); exact rfl)
  refine opt_in (ints_drop (l := p.a) (k := x) s3) ?_
  repeat ((with_reducible first | apply opt_in | apply wI | apply wT | apply wP | apply wS | apply wB); exact rfl)
  refine opt_in (ints_drop (l := p.b) (k := y) s4) ?_
  repeat ((with_reducible first | apply opt_in | apply wI | apply wT | apply wP | apply wS | apply wB); exact rfl)
  rw [show IntKind.wrap .i64 ((p.x : Int) + (x : Int)) = ((p.x + x : Nat) : Int) by rw [wrap_i64 (by omega) (by omega)]; omega, show IntKind.wrap .i64 ((p.y : Int) + (y : Int)) = ((p.y + y : Nat) : Int) by rw [wrap_i64 (by omega) (by omega)]; omega]
  repeat ((with_reducible first | apply opt_in | apply wI | apply wT | apply wP | apply wS | apply wB); exact rfl)
  refine opt2_in (v := .pv (.sl [bxQ ⟨p.a.take s, p.b.take t, p.x, p.y⟩, bxQ ⟨p.a.drop x, p.b.drop y, p.x + x, p.y + y⟩])) rfl ?_
  refine opt2_in (app_cut (p := p) hl h0 hlb) ?_
  have e : (zs.take l ++ [(⟨p.a.take s, p.b.take t, p.x, p.y⟩ : Bx), ⟨p.a.drop x, p.b.drop y, p.x + x, p.y + y⟩]).length = l + 2 := by
    rw [List.length_append, List.length_take]
    simp only [List.length_cons, List.length_nil]
    omega
  refine myers_mark.n8_weak (t4' := .ptr 0 0) (m' := .ptr 3 0) (stack' := .arr 4 (l + 2) 0 (l + 2)) (EWeak.shift (t := 6) (id := 6) (k := 4) (ver := l + 2) (len := l + 2) (es := 4) (xs := (zs.take l ++ [(⟨p.a.take s, p.b.take t, p.x, p.y⟩ : Bx), ⟨p.a.drop x, p.b.drop y, p.x + x, p.y + y⟩]).map bxQ) (τ := [.cells 107 [.nilsl, .nilsl], .arr 1 (boP G) false, .arr 1 (boP C) false, .cells 107 [.arr 1 a.length 0 a.length, .arr 2 b.length 0 b.length]]) glob0 (Nat.zero_le _) (by decide) rfl (by rw [List.length_map]; exact e) (by omega) rfl rfl rfl rfl rfl) ?_
  unfold m8 at nx
  rw [e] at nx
  exact nx
theorem mark_loop (L : Laid w0.w) (ha : a.length ≤ 4194304) (hb : b.length ≤ 4194304) (hP : ∀ G C : List Bool, G.length = a.length → C.length = b.length → trueN G + trueN C = cntL a b → P (.pv (.agg [.sl (boP G), .sl (boP C)]))) : ∀ (f : Nat) (G C : List Bool) (zs : List Bx) (len : Nat), fuelS (zs.take len).reverse < f → fuelS (zs.take len).reverse ≤ 33554432 → len ≤ zs.length → 0 < zs.length → Todo a b G C (zs.take len).reverse → m8 w0 P a b G C zs len
  | 0, _, _, _, _, hf, _, _, _, _ => absurd hf (Nat.not_lt_zero _)
  | f + 1, G, C, zs, 0, hf, hs, hl, h0, T => by
    refine myers_mark.n8_in ?_
    rw [myers_mark.b9_eq]
    repeat ((with_reducible first | apply opt_in | apply wI | apply wT | apply wP | apply wS | apply wB); exact rfl)
    rw [condB_decide, if_neg (by decide)]
    refine myers_mark.n63_in ?_
    rw [myers_mark.b63_eq]
    repeat ((with_reducible first | apply opt_in | apply wI | apply wT | apply wP | apply wS | apply wB); exact rfl)
    have hs' := T.sum
    simp only [List.take_zero, List.reverse_nil, List.map_nil, List.sum_nil, Nat.add_zero] at hs'
    have key : ∀ S : Store, S[1]? = some (.arr 1 (boP G) false) → S[2]? = some (.arr 1 (boP C) false) → sealR 0 S (.agg [.arr 1 a.length 0 a.length, .arr 2 b.length 0 b.length]) = some (.pv (.agg [.sl (boP G), .sl (boP C)])) := by
      intro S h1 h2
      have e1 : sealV 0 S (.arr 1 a.length 0 a.length) = some (.pv (.sl (boP G))) := by
        show (match S[1]? with
          | some (.arr _ xs _) => if xs.length = a.length ∧ 0 + a.length ≤ a.length then some (AV.pv (.sl ((xs.drop 0).take a.length))) else none
          | _ => none) = _
        rw [h1]
        simp only
        rw [if_pos ⟨by rw [List.length_map]; exact T.g, by omega⟩, List.drop_zero, List.take_of_length_le (by rw [List.length_map, T.g]; exact Nat.le_refl _)]
      have e2 : sealV 0 S (.arr 2 b.length 0 b.length) = some (.pv (.sl (boP C))) := by
        show (match S[2]? with
          | some (.arr _ xs _) => if xs.length = b.length ∧ 0 + b.length ≤ b.length then some (AV.pv (.sl ((xs.drop 0).take b.length))) else none
          | _ => none) = _
        rw [h2]
        simp only
        rw [if_pos ⟨by rw [List.length_map]; exact T.c, by omega⟩, List.drop_zero, List.take_of_length_le (by rw [List.length_map, T.c]; exact Nat.le_refl _)]
      show (sealVs 0 S [.arr 1 a.length 0 a.length, .arr 2 b.length 0 b.length]).map mkAgg = _
      simp only [sealVs, e1, e2]
      rfl
    exact fin_seal (σ := []) (r' := .pv (.agg [.sl (boP G), .sl (boP C)])) glob0 rfl (key _ rfl rfl) (hP G C T.g T.c hs')
  | f + 1, G, C, zs, l + 1, hf, hs, hl, h0, T => by
    have hg : zs[l]? = some (zs[l]'(by omega)) := List.getElem?_eq_getElem _
    obtain ⟨p, hp⟩ : ∃ p, zs[l]? = some p := ⟨_, hg⟩
    rw [take_rev hp] at T hf hs
    rw [fuelS_cons] at hf hs
    obtain ⟨i1, i2⟩ := T.inG p rfl
    obtain ⟨j1, j2⟩ := T.inC p rfl
    have hll := fuelS_len (zs.take l).reverse
    rw [List.length_reverse, List.length_take] at hll
    have f1 := fuelB_one p
    have wl : IntKind.wrap .i64 (((l + 1 : Nat) : Int) - 1) = (l : Int) := by rw [wrap_i64 (by omega) (by omega)]; omega
    refine myers_mark.n8_in ?_
    rw [myers_mark.b9_eq]
    repeat ((with_reducible first | apply opt_in | apply wI | apply wT | apply wP | apply wS | apply wB); exact rfl)
    rw [condB_decide, if_pos (by omega)]
    repeat ((with_reducible first | apply opt_in | apply wI | apply wT | apply wP | apply wS | apply wB); exact rfl)
    rw [wl]
    refine opt_in (bx_idx (zs := zs) (fz := false) rfl rfl (Nat.lt_succ_self l)) ?_
    refine opt_in (bx_load (zs := zs) (fz := false) rfl rfl hp) ?_
    refine trim_spec L (a := p.a) (b := p.b) (x := p.x) (y := p.y) (by omega) (by omega) fun a' b' i tr => ?_
    obtain ⟨t1, t2, t3, t4⟩ := tr
    have T' := T.trim (p' := ⟨a', b', p.x + i, p.y + i⟩) (i := i) t1 rfl rfl t2 t3
    repeat ((with_reducible first | apply opt_in | apply wI | apply wT | apply wP | apply wS | apply wB); exact rfl)
    rw [wl]
    refine opt_in (bx_cut (zs := zs) (fz := false) rfl rfl (Nat.le_succ l)) ?_
    have h23 : ∀ q, (q = true ↔ (a' = [] ∨ b' = [])) → myers_mark.n23 (myers_mark.X w0 0) w0 0 (fun r _ => P r) (mkS5 a b G C zs ⟨a', b', p.x + i, p.y + i⟩) (.ptr 0 0) (.ptr 3 0) (.arr 4 zs.length 0 l) (.ptr 5 0) q := by
      intro q hq
      refine myers_mark.n23_in ?_
      rw [myers_mark.b23_eq]
      refine condB_split (fun g => ?_) (fun g => ?_)
      · repeat ((with_reducible first | apply opt_in | apply wI | apply wT | apply wP | apply wS | apply wB); exact rfl)
        rw [List.length_map]
        refine gone_loop (p := ⟨a', b', p.x + i, p.y + i⟩) (G0 := G) ha hb (by simp only; omega) (by simp only; omega) T.g T.c ?_ a'.length 0 (by simp)
        refine mark_loop L ha hb hP f _ _ zs l (by omega) (by omega) (by omega) h0 ?_
        exact T'.mark (hq.1 g)
      · have hne : ¬ (a' = [] ∨ b' = []) := fun h => by rw [hq.2 h] at g; cases g
        have two : 2 ≤ cntL a' b' := by
          rcases t4 with h | h | h
          · exact absurd (.inl h) hne
          · exact absurd (.inr h) hne
          · exact h
        refine mark60 L (p := ⟨a', b', p.x + i, p.y + i⟩) (by simp only; omega) (by simp only; omega) (by simp only; omega) (by simp only; omega) (by omega) h0 (by omega) two fun s t x y so => ?_
        have T2 := T'.split so.sx so.ty so.xa so.yb so.sum
        have er : ((zs.take l ++ [(⟨a'.take s, b'.take t, p.x + i, p.y + i⟩ : Bx), ⟨a'.drop x, b'.drop y, p.x + i + x, p.y + i + y⟩]).take (l + 2)).reverse = ⟨a'.drop x, b'.drop y, p.x + i + x, p.y + i + y⟩ :: ⟨a'.take s, b'.take t, p.x + i, p.y + i⟩ :: (zs.take l).reverse := by
          rw [List.take_of_length_le (by rw [List.length_append, List.length_take]; simp only [List.length_cons, List.length_nil]; omega)]
          simp
        have c1 := cnt_len _ _ so.one
        have c2 := cnt_len _ _ so.two
        have sx := so.sx
        have ty := so.ty
        have xa := so.xa
        have yb := so.yb
        have hfs := fuelB_split (p := ⟨a', b', p.x + i, p.y + i⟩) (q := ⟨a'.drop x, b'.drop y, p.x + i + x, p.y + i + y⟩) (r := ⟨a'.take s, b'.take t, p.x + i, p.y + i⟩) c2 c1 (by simp only [List.length_drop, List.length_take]; omega)
        have hft := fuelB_le (p := p) (p' := ⟨a', b', p.x + i, p.y + i⟩) (by simp only; omega)
        refine mark_loop L ha hb hP f G C _ (l + 2) ?_ ?_ (by rw [List.length_append, List.length_take]; simp only [List.length_cons, List.length_nil]; omega) (by rw [List.length_append]; simp) ?_
        · rw [er, fuelS_cons, fuelS_cons]; omega
        · rw [er, fuelS_cons, fuelS_cons]; omega
        · rw [er]; exact T2
    repeat ((with_reducible first | apply opt_in | apply wI | apply wT | apply wP | apply wS | apply wB); exact rfl)
    rw [List.length_map, condB_ibeq]
    refine ite_split (fun g => ?_) (fun g => ?_)
    · have : a' = [] := List.length_eq_zero_iff.1 (by omega)
      exact h23 true ⟨fun _ => .inl this, fun _ => rfl⟩
    · repeat ((with_reducible first | apply opt_in | apply wI | apply wT | apply wP | apply wS | apply wB); exact rfl)
      rw [List.length_map]
      refine h23 _ ⟨fun e => .inr (List.length_eq_zero_iff.1 (by have := eq_of_beq e; omega)), fun e => ?_⟩
      rcases e with e | e
      · exact absurd (by rw [e]; rfl) g
      · rw [e]; rfl
end
end Go.Sv
end
section
namespace Go.Sv
section
open Go Go.RowKit Go.Proofs
variable {w0 : Base} {σ : Store} {P : AV → Prop} {a b : List Int}
theorem mk_bools {n : Nat} (h : n ≤ 1099511627776) : mkObj 4 ti4 (n : Int) (n : Int) = some (.arr 1 (boP (List.replicate n false)) false) := by
  unfold mkObj
  show (match (if 0 ≤ (n : Int) ∧ (n : Int) ≤ (n : Int) ∧ roomy (n : Int).toNat 1 ∧ (PV.bool false).cells.length = 1 then some (AV.arr ([] : Store).length (n : Int).toNat 0 (n : Int).toNat, ([] : Store) ++ [SObj.arr 1 (List.replicate (n : Int).toNat (PV.bool false)) false]) else none) with
    | some (_, [ob]) => some ob
    | _ => none) = _
  have e : (n : Int).toNat = n := Int.toNat_natCast n
  rw [if_pos ⟨Int.natCast_nonneg n, Int.le_refl _, by rw [e]; exact ⟨by omega, by omega⟩, rfl⟩, e]
  simp only [List.nil_append]
  rw [show boP (List.replicate n false) = List.replicate n (PV.bool false) from List.map_replicate]
def MarkIs (a b : List Int) (r : AV) : Prop := ∃ G C : List Bool, G.length = a.length ∧ C.length = b.length ∧ trueN G + trueN C = cntL a b ∧ r = .pv (.agg [.sl (boP G), .sl (boP C)])
theorem mark_spec {R : AV → Store → Prop} (L : Laid w0.w) (ha : a.length ≤ 4194304) (hb : b.length ≤ 4194304) (hR : ∀ G C : List Bool, G.length = a.length → C.length = b.length → trueN G + trueN C = cntL a b → R (.pv (.agg [.sl (boP G), .sl (boP C)])) σ) : SCalls (cx w0) myers_mark.id [intsA a, intsA b] σ R := by
  refine SCalls.some_of (P := MarkIs a b) L rfl (fun w1 L1 => ?_) (fun r ⟨G, C, _, _, _, e⟩ => by rw [e]; rfl) (fun r ⟨G, C, h1, h2, h3, e⟩ => by rw [e]; exact hR G C h1 h2 h3)
  refine myers_mark.calls ?_
  rw [myers_mark.b0_eq]
  repeat ((with_reducible first | apply opt_in | apply wI | apply wT | apply wP | apply wS | apply wB); exact rfl)
  rw [List.length_map]
  refine opt_in (mk_bools (by omega)) ?_
  repeat ((with_reducible first | apply opt_in | apply wI | apply wT | apply wP | apply wS | apply wB); exact rfl)
  rw [List.length_map]
  refine opt_in (mk_bools (by omega)) ?_
  have er : ∀ (id n : Nat), mkRes ti4 id (n : Int) = .arr id n 0 n := fun id n => by
    show AV.arr id (n : Int).toNat 0 (n : Int).toNat = _
    rw [Int.toNat_natCast]
  rw [er, er]
  repeat ((with_reducible first | apply opt_in | apply wI | apply wT | apply wP | apply wS | apply wB); exact rfl)
  refine opt2_in (v := .arr 4 1 0 1) (s := mkS a b (List.replicate a.length false) (List.replicate b.length false) [⟨a, b, 0, 0⟩]) rfl ?_
  have hf : fuelS [(⟨a, b, 0, 0⟩ : Bx)] ≤ 33554432 := by
    rw [fuelS_cons]
    unfold fuelB fuelS
    split
    · decide
    · simp only [List.map_nil, List.sum_nil]; omega
  exact mark_loop (P := MarkIs a b) L1 ha hb (fun G C h1 h2 h3 => ⟨G, C, h1, h2, h3, rfl⟩) (fuelS [(⟨a, b, 0, 0⟩ : Bx)] + 1) _ _ [⟨a, b, 0, 0⟩] 1 (Nat.lt_succ_self _) hf (Nat.le_refl _) (Nat.zero_lt_one) (todo_first a b)
end
end Go.Sv
end
