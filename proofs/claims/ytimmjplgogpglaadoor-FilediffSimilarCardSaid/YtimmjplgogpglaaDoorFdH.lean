/- What package myers answers: the middle of a shortest way, diagonal by diagonal. -/
import Derived.Test.YtimmjplgogpglaaDoorFdG
set_option linter.unusedVariables false
set_option linter.unusedSimpArgs false
set_option maxRecDepth 100000
namespace Go.Sv
section
open Go Go.RowKit Go.Proofs
variable {w0 : Base} {σ : Store} {P : AV → Prop}
variable {a b : List Int} {h o : Nat} {c d : List Int} {k : Int}
abbrev snA (s t x y : Nat) : AV := .tup [.pv (.int .i64 (s : Int)), .pv (.int .i64 (t : Int)), .pv (.int .i64 (x : Int)), .pv (.int .i64 (y : Int))]
def NoMeet (a b : List Int) (h o : Nat) (c d : List Int) (k : Int) : Prop := oddN a b = o → o ≤ h → ∀ k', rngK a.length b.length h k' → k' < k → rngK a.length b.length (h - o) ((a.length : Int) - b.length - k') → ∀ X X' : Int, c[wix a.length b.length k']? = some X → d[wix a.length b.length ((a.length : Int) - b.length - k')]? = some X' → X + X' < a.length
structure Stg (a b : List Int) (h o : Nat) (c d : List Int) : Prop where
  hn : a.length ≤ 4194304
  hm : b.length ≤ 4194304
  ho : o = 0 ∨ o = 1
  hh : h ≤ 8388608
  two : 2 ≤ cntL a b
  cl : c.length = sizeK a.length b.length
  dl : d.length = sizeK a.length b.length
  prev : h = 0 ∨ ∃ h0, h = h0 + 1 ∧ RowK (eS o a b) a.length b.length h0 allK c
  drow : o ≤ h → RowK (eS (1 - o) a b) a.length b.length (h - o) allK d
  en : oddN a b = o → 2 * h ≤ cntL a b + o
abbrev p19 (w0 : Base) (P : AV → Prop) (a b : List Int) (h o : Nat) (c d : List Int) : Prop :=
  myers_snake.n19 (myers_snake.X w0 0) w0 0 (fun r _ => P r) (SS o c d) (intsA a) (intsA b) a.length b.length (sizeK a.length b.length : Nat) (rwA a b 0) (rwA a b 1) (oddN a b) h onesA 2 ((1 - o + 1 : Nat) : Int)
abbrev p82 (w0 : Base) (P : AV → Prop) (a b : List Int) (h o : Nat) (c d : List Int) (k x y s t : Int) (q : Bool) : Prop :=
  myers_snake.n82 (myers_snake.X w0 0) w0 0 (fun r _ => P r) (SS o c d) (intsA a) (intsA b) a.length b.length (sizeK a.length b.length : Nat) (rwA a b 0) (rwA a b 1) (oddN a b) h o (rwA a b (1 - o)) (rwA a b o) k x y s t onesA 2 ((1 - o : Nat) : Int) q
abbrev p55 (w0 : Base) (P : AV → Prop) (a b : List Int) (h o : Nat) (c d : List Int) (k : Int) (q : Bool) : Prop :=
  myers_snake.n55 (myers_snake.X w0 0) w0 0 (fun r _ => P r) (SS o c d) (intsA a) (intsA b) a.length b.length (sizeK a.length b.length : Nat) (rwA a b 0) (rwA a b 1) (oddN a b) h o (rwA a b (1 - o)) (rwA a b o) k onesA 2 ((1 - o : Nat) : Int) q
abbrev p58 (w0 : Base) (P : AV → Prop) (a b : List Int) (h o : Nat) (c d : List Int) (k x : Int) : Prop :=
  myers_snake.n58 (myers_snake.X w0 0) w0 0 (fun r _ => P r) (SS o c d) (intsA a) (intsA b) a.length b.length (sizeK a.length b.length : Nat) (rwA a b 0) (rwA a b 1) (oddN a b) h o (rwA a b (1 - o)) (rwA a b o) k x onesA 2 ((1 - o : Nat) : Int)
def Hid (p : Prop) : Prop := p
theorem sizeK_le (hn : a.length ≤ 4194304) (hm : b.length ≤ 4194304) : sizeK a.length b.length ≤ 1099511627776 := by unfold sizeK; omega
theorem rng_bd {n m h : Nat} {k : Int} (hk : rngK n m h k) (hh : h ≤ 8388608) : -8388608 ≤ k ∧ k ≤ 8388608 := by unfold rngK at hk; omega
theorem rng_in {n m h o : Nat} {z : Int} (hr : rngK n m (h - o) z) (ho : o ≤ h) : -((h : Int) - o) ≤ z ∧ z ≤ (h : Int) - o := by unfold rngK at hr; omega
theorem up_bd {k : Int} (hk : -16777216 ≤ k ∧ k ≤ 16777216) : -1099511627776 ≤ k ∧ k ≤ 1099511627776 := by omega
theorem up_bd2 {k : Int} (hk : -8388608 ≤ k ∧ k ≤ 8388608) : -1099511627776 ≤ k ∧ k ≤ 1099511627776 := by omega
theorem wr_two {k : Int} (hk : -8388608 ≤ k ∧ k ≤ 8388608) : IntKind.wrap .i64 (k + 2) = k + 2 := wrap_i64 (by omega) (by omega)
theorem wr_z {n m : Nat} {k : Int} (hn : n ≤ 4194304) (hm : m ≤ 4194304) (hk : -8388608 ≤ k ∧ k ≤ 8388608) : IntKind.wrap .i64 (IntKind.wrap .i64 ((n : Int) - m) - k) = (n : Int) - m - k := by
  rw [wrap_i64 (n := (n : Int) - m) (by omega) (by omega), wrap_i64 (by omega) (by omega)]
theorem wr_ho {h o : Nat} (hh : h ≤ 8388608) (ho : o = 0 ∨ o = 1) : IntKind.wrap .i64 ((h : Int) - o) = (h : Int) - o := wrap_i64 (by omega) (by omega)
theorem wr_no {h o : Nat} (hh : h ≤ 8388608) (ho : o = 0 ∨ o = 1) : IntKind.wrap .i64 (0 - ((h : Int) - o)) = -((h : Int) - o) := by rw [wrap_i64 (by omega) (by omega)]; omega
theorem wr_sub {n x : Nat} (hn : n ≤ 4194304) (hx : x ≤ n) : IntKind.wrap .i64 ((n : Int) - (x : Nat)) = ((n - x : Nat) : Int) := by rw [wrap_i64 (by omega) (by omega)]; omega
theorem wr_sum {x y : Nat} (hx : x ≤ 16777216) (hy : y ≤ 33554432) : IntKind.wrap .i64 ((x : Int) + (y : Int)) = (x : Int) + (y : Int) := wrap_i64 (by omega) (by omega)
theorem z_bd {n m : Nat} {k : Int} (hn : n ≤ 4194304) (hm : m ≤ 4194304) (hk : -8388608 ≤ k ∧ k ≤ 8388608) : -16777216 ≤ (n : Int) - m - k ∧ (n : Int) - m - k ≤ 16777216 := by omega
theorem eS_bound {o : Nat} {a b : List Int} {x y h : Nat} (hw : wayF (eS o a b) x y ≤ h) : x ≤ a.length + h ∧ y ≤ b.length + h := by
  refine ⟨?_, ?_⟩
  · by_cases c : x ≤ a.length
    · omega
    · have e := way_out (e := eS o a b) (n := a.length) (fun i j hi => eS_out (.inl hi)) y (x - a.length)
      rw [show a.length + (x - a.length) = x by omega] at e
      omega
  · by_cases c : y ≤ b.length
    · omega
    · have e := way_out2 (e := eS o a b) (m := b.length) (fun i j hj => eS_out (.inr hj)) x (y - b.length)
      rw [show b.length + (y - b.length) = y by omega] at e
      omega
theorem z_rng {n m h o : Nat} {k : Int} (hk : rngK n m h k) (ho : o = 0 ∨ o = 1) (hho : o ≤ h) (hpar : (n + m) % 2 = o) (hs : 2 * h ≤ n + m + o) (g2 : -((h : Int) - o) ≤ (n : Int) - m - k) (g3 : (n : Int) - m - k ≤ (h : Int) - o) : rngK n m (h - o) ((n : Int) - m - k) := by
  obtain ⟨k1, k2, k3⟩ := hk
  have e1 : ((h - o : Nat) : Int) = (h : Int) - o := by omega
  unfold rngK
  rw [e1]
  rcases ho with rfl | rfl
  · refine ⟨?_, ?_, ?_⟩
    · clear k3; omega
    · clear k3; omega
    · clear k1 k2 g2 g3 hs; omega
  · refine ⟨?_, ?_, ?_⟩
    · clear k3; omega
    · clear k3; omega
    · clear k1 k2 g2 g3 hs; omega
theorem meet_out {h o s t l X' Y' : Nat} {a b : List Int} {k : Int} (ho : o = 0 ∨ o = 1) (hho : o ≤ h) (two : 2 ≤ cntL a b) (hD : 2 * h ≤ cntL a b + o) (hst : (s : Int) = t + k) (hway : wayF (eS o a b) s t ≤ h) (hmt : ∀ i, i < l → eS o a b (s + i) (t + i) = true)
    (q1 : (X' : Int) = Y' + ((a.length : Int) - b.length - k)) (q3 : Far (eS (1 - o) a b) (h - o) X' Y') (g : ¬ ((s + l : Nat) : Int) + (X' : Int) < a.length) :
    (o = 1 → SnakeOut a b s t (s + l) (t + l)) ∧ (o = 0 → s + l ≤ a.length ∧ t + l ≤ b.length ∧ SnakeOut a b (a.length - (s + l)) (b.length - (t + l)) (a.length - s) (b.length - t)) := by
  generalize hDe : cntL a b = D at *
  rcases ho with rfl | rfl
  · refine ⟨fun e => absurd e (by decide), fun _ => ?_⟩
    unfold eS at hway hmt q3
    simp only [if_neg (show ¬ (0 : Nat) = 1 by decide)] at hway hmt
    rw [if_pos (by rfl)] at q3
    have hB := q3.le
    obtain ⟨m1, m2, m3, m4, m5⟩ := middle_law (a := a.reverse) (b := b.reverse) (h := h) (h' := h) (by rw [cnt_rev]; omega) hway hmt (x' := X') (y' := Y') (by rw [List.length_reverse, List.length_reverse, eqL_rev2]; exact hB) (by rw [List.length_reverse, List.length_reverse]; omega) (by rw [List.length_reverse]; omega)
    rw [cnt_rev] at m3
    exact snake_back (a := a) (b := b) (h := h) (h' := h) (by omega) (by omega) (by omega) hway hmt q3 (k := k) (by omega) q1 (by omega)
  · refine ⟨fun _ => ?_, fun e => absurd e (by decide)⟩
    unfold eS at hway hmt q3
    simp only [if_true] at hway hmt
    rw [if_neg (by decide)] at q3
    have hB := q3.le
    obtain ⟨m1, m2, m3, m4, m5⟩ := middle_law (a := a) (b := b) (h := h) (h' := h - 1) (by omega) hway hmt (x' := X') (y' := Y') (by rw [← eqL_rev]; exact hB) (by omega) (by omega)
    exact snake_ahead (a := a) (b := b) (h := h) (h' := h - 1) (by omega) (by omega) (by omega) hway hmt q3 (k := k) (by omega) q1 (by omega)
theorem snake75 (S : Stg a b h o c d) (hk : rngK a.length b.length h k) {s t l : Nat} (hst : (s : Int) = t + k) (hx : s + l ≤ 16777216) (hy : t + l ≤ 16777216) (hway : Hid (wayF (eS o a b) s t ≤ h)) (hmt : ∀ i, i < l → eS o a b (s + i) (t + i) = true)
    (hret : ∀ s t x y, SnakeOut a b s t x y → P (snA s t x y))
    (hgo : (oddN a b = o → o ≤ h → rngK a.length b.length (h - o) ((a.length : Int) - b.length - k) → ∀ X' : Int, d[wix a.length b.length ((a.length : Int) - b.length - k)]? = some X' → ((s + l : Nat) : Int) + X' < a.length) → p41 w0 (fun r _ => P r) a b h o (c.set (wix a.length b.length k) ((s + l : Nat) : Int)) d (k + 2)) :
    p75 w0 (fun r _ => P r) a b h o c d k ((s + l : Nat) : Int) ((t + l : Nat) : Int) s t := by
  have hkb := rng_bd hk S.hh
  have gc : c[wix a.length b.length k]? = some (c[wix a.length b.length k]'(by rw [S.cl]; exact wix_lt _ _ _)) := List.getElem?_eq_getElem _
  have more : ∀ c', (p41 w0 (fun r _ => P r) a b h o c' d (k + 2)) → p82 w0 P a b h o c' d k ((s + l : Nat) : Int) ((t + l : Nat) : Int) s t true := by
    intro c' h'
    refine myers_snake.n82_in ?_
    rw [myers_snake.b82_eq, condB_true']
    refine myers_snake.n96_in ?_
    rw [myers_snake.b96_eq, wr_two hkb]
    exact h'
  refine myers_snake.n75_in ?_
  rw [myers_snake.b75_eq]
  refine wrap_spec (n := a.length) (m := b.length) (sizeK_le S.hn S.hm) (up_bd2 hkb) (isI_in ?_)
  refine opt_in (arr_idx (SS_c S.ho c d) S.cl (wix_lt _ _ _)) ?_
  refine opt_in (arr_store (SS_c S.ho c d) S.cl gc) ?_
  rw [SS_set S.ho, condB_ibne]
  refine ite_split (fun g1 => ?_) (fun g1 => more _ (hgo fun e => absurd e g1))
  rw [condB_decide, wr_z S.hn S.hm hkb, wr_ho S.hh S.ho, wr_no S.hh S.ho]
  refine ite_split (fun g2 => more _ (hgo fun _ ho' hr => absurd g2 (Int.not_lt.2 (rng_in hr ho').1))) (fun g2 => ?_)
  rw [condB_decide]
  refine ite_split (fun g3 => more _ (hgo fun _ ho' hr => absurd g3 (Int.not_lt.2 (rng_in hr ho').2))) (fun g3 => ?_)
  have hho : o ≤ h := by clear hst hx hy hkb; omega
  have hD := S.en g1
  have hpar : (a.length + b.length) % 2 = o := Int.ofNat.inj g1
  have hcl2 : cntL a b ≤ a.length + b.length := (way_facts (e := eqL a b) a.length b.length).1
  have hsum : 2 * h ≤ a.length + b.length + o := by
    generalize cntL a b = D at hD hcl2
    clear hst hx hy hkb hpar g2 g3
    omega
  have hz := z_rng hk S.ho hho hpar hsum (Int.not_lt.1 g2) (Int.not_lt.1 g3)
  obtain ⟨X', Y', q1, q2, q3⟩ := S.drow hho _ hz trivial
  refine wrap_spec (n := a.length) (m := b.length) (sizeK_le S.hn S.hm) (up_bd (z_bd S.hn S.hm hkb)) (isI_in ?_)
  refine opt_in (arr_idx (SS_d S.ho _ d) S.dl (wix_lt _ _ _)) ?_
  refine opt_in (arr_load (SS_d S.ho _ d) S.dl q2) ?_
  refine isI_in ?_
  have hXb : X' ≤ 33554432 := by
    have r := (eS_bound q3.le).1
    have hn := S.hn
    have hh := S.hh
    clear hst hx hy hkb hpar g2 g3 hD hcl2 hsum q1
    omega
  rw [wr_sum hx hXb]
  by_cases g4 : ((s + l : Nat) : Int) + (X' : Int) < a.length
  · rw [decide_eq_true g4]
    refine more _ (hgo fun _ _ _ Z hZ => ?_)
    rw [q2] at hZ
    cases hZ
    exact g4
  · rw [decide_eq_false g4]
    obtain ⟨r1, r2⟩ := meet_out S.ho hho S.two hD hst hway hmt q1 q3 g4
    refine myers_snake.n82_in ?_
    rw [myers_snake.b82_eq, condB_false', condB_ibeq]
    rcases S.ho with h0 | h1
    · obtain ⟨u1, u2, u3⟩ := r2 h0
      subst h0
      rw [if_neg (by decide), wr_sub S.hn u1, wr_sub S.hm u2, wr_sub S.hn (Nat.le_trans (Nat.le_add_right s l) u1), wr_sub S.hm (Nat.le_trans (Nat.le_add_right t l) u2)]
      exact fin_keep (Nat.zero_le _) (hret _ _ _ _ u3)
    · have u := r1 h1
      subst h1
      rw [if_pos (by rfl)]
      exact fin_keep (Nat.zero_le _) (hret _ _ _ _ u)
end
end Go.Sv
