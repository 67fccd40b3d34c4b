/- What package myers answers: the middle of a shortest way, diagonal by diagonal. What package myers answers: the middle of a shortest way, round by round. What package myers answers: the middle of a shortest way. -/
import Derived.Test.YtimmjplgogpglaaDoorFdG
set_option linter.unusedVariables false
set_option linter.unusedSimpArgs false
set_option maxRecDepth 100000
section
namespace Go.Sv
section
open Go Go.RowKit Go.Proofs
variable {w0 : Base} {σ : Store} {P : AV → Prop}
variable {a b : List Int} {h o : Nat} {c d : List Int} {k : Int}
abbrev snA (s t x y : Nat) : AV := .tup [.pv (.int .i64 (s : Int)), .pv (.int .i64 (t : Int)), .pv (.int .i64 (x : Int)), .pv (.int .i64 (y : Int))]
def NoMeet (a b : List Int) (h o : Nat) (c d : List Int) (k : Int) : Prop := oddN a b = o → o ≤ h → ∀ k', rngK a.length b.length h k' → k' < k → rngK a.length b.length (h - o) ((a.length : Int) - b.length - k') → ∀ X X' : Int, c[wix a.length b.length k']? = some X → d[wix a.length b.length ((a.length : Int) - b.length - k')]? = some X' → X + X' < a.length
structure Stg (a b : List Int) (h o : Nat) (c d : List Int) : Prop where
  hn : a.length ≤ 4194304
  hm : b.length ≤ 4194304
  ho : o = 0 ∨ o = 1
  hh : h ≤ 8388608
  two : 2 ≤ cntL a b
  cl : c.length = sizeK a.length b.length
  dl : d.length = sizeK a.length b.length
  prev : h = 0 ∨ ∃ h0, h = h0 + 1 ∧ RowK (eS o a b) a.length b.length h0 allK c
  drow : o ≤ h → RowK (eS (1 - o) a b) a.length b.length (h - o) allK d
  en : oddN a b = o → 2 * h ≤ cntL a b + o
abbrev p19 (w0 : Base) (P : AV → Prop) (a b : List Int) (h o : Nat) (c d : List Int) : Prop :=
  myers_snake.n19 (myers_snake.X w0 0) w0 0 (fun r _ => P r) (SS o c d) (intsA a) (intsA b) a.length b.length (sizeK a.length b.length : Nat) (rwA a b 0) (rwA a b 1) (oddN a b) h onesA 2 ((1 - o + 1 : Nat) : Int)
abbrev p82 (w0 : Base) (P : AV → Prop) (a b : List Int) (h o : Nat) (c d : List Int) (k x y s t : Int) (q : Bool) : Prop :=
  myers_snake.n82 (myers_snake.X w0 0) w0 0 (fun r _ => P r) (SS o c d) (intsA a) (intsA b) a.length b.length (sizeK a.length b.length : Nat) (rwA a b 0) (rwA a b 1) (oddN a b) h o (rwA a b (1 - o)) (rwA a b o) k x y s t onesA 2 ((1 - o : Nat) : Int) q
abbrev p55 (w0 : Base) (P : AV → Prop) (a b : List Int) (h o : Nat) (c d : List Int) (k : Int) (q : Bool) : Prop :=
  myers_snake.n55 (myers_snake.X w0 0) w0 0 (fun r _ => P r) (SS o c d) (intsA a) (intsA b) a.length b.length (sizeK a.length b.length : Nat) (rwA a b 0) (rwA a b 1) (oddN a b) h o (rwA a b (1 - o)) (rwA a b o) k onesA 2 ((1 - o : Nat) : Int) q
abbrev p58 (w0 : Base) (P : AV → Prop) (a b : List Int) (h o : Nat) (c d : List Int) (k x : Int) : Prop :=
  myers_snake.n58 (myers_snake.X w0 0) w0 0 (fun r _ => P r) (SS o c d) (intsA a) (intsA b) a.length b.length (sizeK a.length b.length : Nat) (rwA a b 0) (rwA a b 1) (oddN a b) h o (rwA a b (1 - o)) (rwA a b o) k x onesA 2 ((1 - o : Nat) : Int)
def Hid (p : Prop) : Prop := p
theorem sizeK_le (hn : a.length ≤ 4194304) (hm : b.length ≤ 4194304) : sizeK a.length b.length ≤ 1099511627776 := by unfold sizeK; omega
theorem rng_bd {n m h : Nat} {k : Int} (hk : rngK n m h k) (hh : h ≤ 8388608) : -8388608 ≤ k ∧ k ≤ 8388608 := by unfold rngK at hk; omega
theorem rng_in {n m h o : Nat} {z : Int} (hr : rngK n m (h - o) z) (ho : o ≤ h) : -((h : Int) - o) ≤ z ∧ z ≤ (h : Int) - o := by unfold rngK at hr; omega
theorem up_bd {k : Int} (hk : -16777216 ≤ k ∧ k ≤ 16777216) : -1099511627776 ≤ k ∧ k ≤ 1099511627776 := by omega
theorem up_bd2 {k : Int} (hk : -8388608 ≤ k ∧ k ≤ 8388608) : -1099511627776 ≤ k ∧ k ≤ 1099511627776 := by omega
theorem wr_two {k : Int} (hk : -8388608 ≤ k ∧ k ≤ 8388608) : IntKind.wrap .i64 (k + 2) = k + 2 := wrap_i64 (by omega) (by omega)
theorem wr_z {n m : Nat} {k : Int} (hn : n ≤ 4194304) (hm : m ≤ 4194304) (hk : -8388608 ≤ k ∧ k ≤ 8388608) : IntKind.wrap .i64 (IntKind.wrap .i64 ((n : Int) - m) - k) = (n : Int) - m - k := by
  rw [wrap_i64 (n := (n : Int) - m) (by omega) (by omega), wrap_i64 (by omega) (by omega)]
theorem wr_ho {h o : Nat} (hh : h ≤ 8388608) (ho : o = 0 ∨ o = 1) : IntKind.wrap .i64 ((h : Int) - o) = (h : Int) - o := wrap_i64 (by omega) (by omega)
theorem wr_no {h o : Nat} (hh : h ≤ 8388608) (ho : o = 0 ∨ o = 1) : IntKind.wrap .i64 (0 - ((h : Int) - o)) = -((h : Int) - o) := by rw [wrap_i64 (by omega) (by omega)]; omega
theorem wr_sub {n x : Nat} (hn : n ≤ 4194304) (hx : x ≤ n) : IntKind.wrap .i64 ((n : Int) - (x : Nat)) = ((n - x : Nat) : Int) := by rw [wrap_i64 (by omega) (by omega)]; omega
theorem wr_sum {x y : Nat} (hx : x ≤ 16777216) (hy : y ≤ 33554432) : IntKind.wrap .i64 ((x : Int) + (y : Int)) = (x : Int) + (y : Int) := wrap_i64 (by omega) (by omega)
theorem z_bd {n m : Nat} {k : Int} (hn : n ≤ 4194304) (hm : m ≤ 4194304) (hk : -8388608 ≤ k ∧ k ≤ 8388608) : -16777216 ≤ (n : Int) - m - k ∧ (n : Int) - m - k ≤ 16777216 := by omega
theorem eS_bound {o : Nat} {a b : List Int} {x y h : Nat} (hw : wayF (eS o a b) x y ≤ h) : x ≤ a.length + h ∧ y ≤ b.length + h := by
  refine ⟨?_, ?_⟩
  · by_cases c : x ≤ a.length
    · omega
    · have e := way_out (e := eS o a b) (n := a.length) (fun i j hi => eS_out (.inl hi)) y (x - a.length)
      rw [show a.length + (x - a.length) = x by omega] at e
      omega
  · by_cases c : y ≤ b.length
    · omega
    · have e := way_out2 (e := eS o a b) (m := b.length) (fun i j hj => eS_out (.inr hj)) x (y - b.length)
      rw [show b.length + (y - b.length) = y by omega] at e
      omega
theorem z_rng {n m h o : Nat} {k : Int} (hk : rngK n m h k) (ho : o = 0 ∨ o = 1) (hho : o ≤ h) (hpar : (n + m) % 2 = o) (hs : 2 * h ≤ n + m + o) (g2 : -((h : Int) - o) ≤ (n : Int) - m - k) (g3 : (n : Int) - m - k ≤ (h : Int) - o) : rngK n m (h - o) ((n : Int) - m - k) := by
  obtain ⟨k1, k2, k3⟩ := hk
  have e1 : ((h - o : Nat) : Int) = (h : Int) - o := by omega
  unfold rngK
  rw [e1]
  rcases ho with rfl | rfl
  · refine ⟨?_, ?_, ?_⟩
    · clear k3; omega
    · clear k3; omega
    · clear k1 k2 g2 g3 hs; omega
  · refine ⟨?_, ?_, ?_⟩
    · clear k3; omega
    · clear k3; omega
    · clear k1 k2 g2 g3 hs; omega
theorem meet_out {h o s t l X' Y' : Nat} {a b : List Int} {k : Int} (ho : o = 0 ∨ o = 1) (hho : o ≤ h) (two : 2 ≤ cntL a b) (hD : 2 * h ≤ cntL a b + o) (hst : (s : Int) = t + k) (hway : wayF (eS o a b) s t ≤ h) (hmt : ∀ i, i < l → eS o a b (s + i) (t + i) = true)
    (q1 : (X' : Int) = Y' + ((a.length : Int) - b.length - k)) (q3 : Far (eS (1 - o) a b) (h - o) X' Y') (g : ¬ ((s + l : Nat) : Int) + (X' : Int) < a.length) :
    (o = 1 → SnakeOut a b s t (s + l) (t + l)) ∧ (o = 0 → s + l ≤ a.length ∧ t + l ≤ b.length ∧ SnakeOut a b (a.length - (s + l)) (b.length - (t + l)) (a.length - s) (b.length - t)) := by
  generalize hDe : cntL a b = D at *
  rcases ho with rfl | rfl
  · refine ⟨fun e => absurd e (by decide), fun _ => ?_⟩
    unfold eS at hway hmt q3
    simp only [if_neg (show ¬ (0 : Nat) = 1 by decide)] at hway hmt
    rw [if_pos (by rfl)] at q3
    have hB := q3.le
    obtain ⟨m1, m2, m3, m4, m5⟩ := middle_law (a := a.reverse) (b := b.reverse) (h := h) (h' := h) (by rw [cnt_rev]; omega) hway hmt (x' := X') (y' := Y') (by rw [List.length_reverse, List.length_reverse, eqL_rev2]; exact hB) (by rw [List.length_reverse, List.length_reverse]; omega) (by rw [List.length_reverse]; omega)
    rw [cnt_rev] at m3
    exact snake_back (a := a) (b := b) (h := h) (h' := h) (by omega) (by omega) (by omega) hway hmt q3 (k := k) (by omega) q1 (by omega)
  · refine ⟨fun _ => ?_, fun e => absurd e (by decide)⟩
    unfold eS at hway hmt q3
    simp only [if_true] at hway hmt
    rw [if_neg (by decide)] at q3
    have hB := q3.le
    obtain ⟨m1, m2, m3, m4, m5⟩ := middle_law (a := a) (b := b) (h := h) (h' := h - 1) (by omega) hway hmt (x' := X') (y' := Y') (by rw [← eqL_rev]; exact hB) (by omega) (by omega)
    exact snake_ahead (a := a) (b := b) (h := h) (h' := h - 1) (by omega) (by omega) (by omega) hway hmt q3 (k := k) (by omega) q1 (by omega)
theorem snake75 (S : Stg a b h o c d) (hk : rngK a.length b.length h k) {s t l : Nat} (hst : (s : Int) = t + k) (hx : s + l ≤ 16777216) (hy : t + l ≤ 16777216) (hway : Hid (wayF (eS o a b) s t ≤ h)) (hmt : ∀ i, i < l → eS o a b (s + i) (t + i) = true)
    (hret : ∀ s t x y, SnakeOut a b s t x y → P (snA s t x y))
    (hgo : (oddN a b = o → o ≤ h → rngK a.length b.length (h - o) ((a.length : Int) - b.length - k) → ∀ X' : Int, d[wix a.length b.length ((a.length : Int) - b.length - k)]? = some X' → ((s + l : Nat) : Int) + X' < a.length) → p41 w0 (fun r _ => P r) a b h o (c.set (wix a.length b.length k) ((s + l : Nat) : Int)) d (k + 2)) :
    p75 w0 (fun r _ => P r) a b h o c d k ((s + l : Nat) : Int) ((t + l : Nat) : Int) s t := by
  have hkb := rng_bd hk S.hh
  have gc : c[wix a.length b.length k]? = some (c[wix a.length b.length k]'(by rw [S.cl]; exact wix_lt _ _ _)) := List.getElem?_eq_getElem _
  have more : ∀ c', (p41 w0 (fun r _ => P r) a b h o c' d (k + 2)) → p82 w0 P a b h o c' d k ((s + l : Nat) : Int) ((t + l : Nat) : Int) s t true := by
    intro c' h'
    refine myers_snake.n82_in ?_
    rw [myers_snake.b82_eq, condB_true']
    refine myers_snake.n96_in ?_
    rw [myers_snake.b96_eq, wr_two hkb]
    exact h'
  refine myers_snake.n75_in ?_
  rw [myers_snake.b75_eq]
  refine wrap_spec (n := a.length) (m := b.length) (sizeK_le S.hn S.hm) (up_bd2 hkb) (isI_in ?_)
  refine opt_in (arr_idx (SS_c S.ho c d) S.cl (wix_lt _ _ _)) ?_
  refine opt_in (arr_store (SS_c S.ho c d) S.cl gc) ?_
  rw [SS_set S.ho, condB_ibne]
  refine ite_split (fun g1 => ?_) (fun g1 => more _ (hgo fun e => absurd e g1))
  rw [condB_decide, wr_z S.hn S.hm hkb, wr_ho S.hh S.ho, wr_no S.hh S.ho]
  refine ite_split (fun g2 => more _ (hgo fun _ ho' hr => absurd g2 (Int.not_lt.2 (rng_in hr ho').1))) (fun g2 => ?_)
  rw [condB_decide]
  refine ite_split (fun g3 => more _ (hgo fun _ ho' hr => absurd g3 (Int.not_lt.2 (rng_in hr ho').2))) (fun g3 => ?_)
  have hho : o ≤ h := by clear hst hx hy hkb; omega
  have hD := S.en g1
  have hpar : (a.length + b.length) % 2 = o := Int.ofNat.inj g1
  have hcl2 : cntL a b ≤ a.length + b.length := (way_facts (e := eqL a b) a.length b.length).1
  have hsum : 2 * h ≤ a.length + b.length + o := by
    generalize cntL a b = D at hD hcl2
    clear hst hx hy hkb hpar g2 g3
    omega
  have hz := z_rng hk S.ho hho hpar hsum (Int.not_lt.1 g2) (Int.not_lt.1 g3)
  obtain ⟨X', Y', q1, q2, q3⟩ := S.drow hho _ hz trivial
  refine wrap_spec (n := a.length) (m := b.length) (sizeK_le S.hn S.hm) (up_bd (z_bd S.hn S.hm hkb)) (isI_in ?_)
  refine opt_in (arr_idx (SS_d S.ho _ d) S.dl (wix_lt _ _ _)) ?_
  refine opt_in (arr_load (SS_d S.ho _ d) S.dl q2) ?_
  refine isI_in ?_
  have hXb : X' ≤ 33554432 := by
    have r := (eS_bound q3.le).1
    have hn := S.hn
    have hh := S.hh
    clear hst hx hy hkb hpar g2 g3 hD hcl2 hsum q1
    omega
  rw [wr_sum hx hXb]
  by_cases g4 : ((s + l : Nat) : Int) + (X' : Int) < a.length
  · rw [decide_eq_true g4]
    refine more _ (hgo fun _ _ _ Z hZ => ?_)
    rw [q2] at hZ
    cases hZ
    exact g4
  · rw [decide_eq_false g4]
    obtain ⟨r1, r2⟩ := meet_out S.ho hho S.two hD hst hway hmt q1 q3 g4
    refine myers_snake.n82_in ?_
    rw [myers_snake.b82_eq, condB_false', condB_ibeq]
    rcases S.ho with h0 | h1
    · obtain ⟨u1, u2, u3⟩ := r2 h0
      subst h0
      rw [if_neg (by decide), wr_sub S.hn u1, wr_sub S.hm u2, wr_sub S.hn (Nat.le_trans (Nat.le_add_right s l) u1), wr_sub S.hm (Nat.le_trans (Nat.le_add_right t l) u2)]
      exact fin_keep (Nat.zero_le _) (hret _ _ _ _ u3)
    · have u := r1 h1
      subst h1
      rw [if_pos (by rfl)]
      exact fin_keep (Nat.zero_le _) (hret _ _ _ _ u)
end
end Go.Sv
end
section
namespace Go.Sv
def LowK (m h : Nat) (k : Int) : Prop := -((h : Int) - 2 * max 0 ((h : Int) - m)) ≤ k
def UpK (n h : Nat) : Int := (h : Int) - 2 * max 0 ((h : Int) - n)
def FuelK (n h f : Nat) (k : Int) : Prop := UpK n h - k < 2 * (f : Int)
theorem rng_mk {n m h : Nat} {k : Int} (h1 : LowK m h k) (h2 : k ≤ UpK n h) (h3 : (k - h) % 2 = 0) : rngK n m h k := ⟨h1, h2, h3⟩
theorem UpK_le (n h : Nat) : UpK n h ≤ h := by unfold UpK; omega
theorem LowK_ge {m h : Nat} {k : Int} (hl : LowK m h k) : -(h : Int) ≤ k := by unfold LowK at hl; omega
theorem rng_up {n m h : Nat} {k : Int} (hr : rngK n m h k) : k ≤ UpK n h := hr.2.1
theorem rng_out {n m h0 : Nat} {k : Int} (hk : rngK n m (h0 + 1) k) (h1 : k ≠ -((h0 + 1 : Nat) : Int)) (h2 : k ≠ ((h0 + 1 : Nat) : Int)) : rngK n m h0 (k - 1) ∧ rngK n m h0 (k + 1) := by
  obtain ⟨k1, k2, k3⟩ := hk
  refine ⟨⟨?_, ?_, ?_⟩, ⟨?_, ?_, ?_⟩⟩
  · omega
  · omega
  · clear k1 k2; omega
  · omega
  · omega
  · clear k1 k2; omega
theorem ne_top {h0 : Nat} {k : Int} (g : k = -((h0 + 1 : Nat) : Int)) : k ≠ (h0 : Int) + 1 := by omega
theorem Stg.set {a b : List Int} {h o : Nat} {c d : List Int} {k v : Int} (S : Stg a b h o c d) (hk : (k - h) % 2 = 0) : Stg a b h o (c.set (wix a.length b.length k) v) d := by
  refine ⟨S.hn, S.hm, S.ho, S.hh, S.two, by rw [List.length_set]; exact S.cl, S.dl, ?_, S.drow, S.en⟩
  rcases S.prev with e | ⟨h0, e, r⟩
  · exact .inl e
  · exact .inr ⟨h0, e, r.keep (by omega)⟩
section
open Go Go.RowKit Go.Proofs
variable {w0 : Base} {σ : Store} {P : AV → Prop}
variable {a b : List Int} {h o : Nat} {c d : List Int} {k : Int}
theorem wr_y {s t h : Nat} {k : Int} (hst : (s : Int) = t + k) (ht : t ≤ 16777216) : IntKind.wrap .i64 ((s : Int) - k) = (t : Int) := by
  have e : (s : Int) - k = t := by omega
  rw [e]
  exact wrap_i64 (by omega) (by omega)
theorem wr_o {o : Nat} (ho : o = 0 ∨ o = 1) : IntKind.wrap .i64 (((1 - o : Nat) : Int) + 1) = ((1 - o + 1 : Nat) : Int) := by rw [wrap_i64 (by omega) (by omega)]; omega
theorem bd_sum {n h x : Nat} (hn : n ≤ 4194304) (hh : h ≤ 8388608) (hx : x ≤ n + h) : x ≤ 16777216 := by omega
theorem snake58 (S : Stg a b h o c d) (hk : rngK a.length b.length h k) {s t : Nat} (hst : (s : Int) = t + k) (hway : Hid (wayF (eS o a b) s t ≤ h)) (hret : ∀ s t x y, SnakeOut a b s t x y → P (snA s t x y))
    (hgo : ∀ l : Nat, (∀ i, i < l → eS o a b (s + i) (t + i) = true) → eS o a b (s + l) (t + l) = false → (oddN a b = o → o ≤ h → rngK a.length b.length (h - o) ((a.length : Int) - b.length - k) → ∀ X' : Int, d[wix a.length b.length ((a.length : Int) - b.length - k)]? = some X' → ((s + l : Nat) : Int) + X' < a.length) → p41 w0 (fun r _ => P r) a b h o (c.set (wix a.length b.length k) ((s + l : Nat) : Int)) d (k + 2)) :
    p58 w0 P a b h o c d k s := by
  refine myers_snake.n58_in ?_
  rw [myers_snake.b58_eq, wr_y (h := h) hst (bd_sum S.hm S.hh (eS_bound hway).2)]
  refine slide S.hn S.hm S.ho (a.length + 1) s t (Nat.lt_of_lt_of_le (Nat.lt_succ_self _) (Nat.le_add_right _ _)) (bd_sum S.hn S.hh (eS_bound hway).1) (bd_sum S.hm S.hh (eS_bound hway).2) fun l h1 h2 => ?_
  have hw2 : Hid (wayF (eS o a b) (s + l) (t + l) ≤ h) := by
    show wayF (eS o a b) (s + l) (t + l) ≤ h
    rw [run_same l h1]; exact hway
  exact snake75 S hk hst (bd_sum S.hn S.hh (eS_bound hw2).1) (bd_sum S.hm S.hh (eS_bound hw2).2) hway h1 hret (hgo l h1 h2)
theorem far_here {e : Nat → Nat → Bool} {l : Nat} (h1 : ∀ i, i < l → e (0 + i) (0 + i) = true) (h2 : e (0 + l) (0 + l) = false) : Far e 0 (0 + l) (0 + l) := by
  have := far_zero (e := e) (l := l) (fun i hi => by have := h1 i hi; rwa [Nat.zero_add] at this) (by rwa [Nat.zero_add] at h2)
  rwa [Nat.zero_add]
theorem wr_up {n h : Nat} (hn : n ≤ 4194304) (hh : h ≤ 8388608) : IntKind.wrap .i64 ((h : Int) - IntKind.wrap .i64 (2 * (if IntKind.wrap .i64 ((h : Int) - n) > 0 then IntKind.wrap .i64 ((h : Int) - n) else 0))) = UpK n h := by
  unfold UpK
  rw [wrap_i64 (n := (h : Int) - n) (by omega) (by omega)]
  by_cases g : (h : Int) - n > 0
  · rw [if_pos g, wrap_i64 (n := 2 * ((h : Int) - n)) (by omega) (by omega), wrap_i64 (by omega) (by omega)]; omega
  · rw [if_neg g, wrap_i64 (n := 2 * 0) (by omega) (by omega), wrap_i64 (by omega) (by omega)]; omega
theorem wr_lo {m h : Nat} (hm : m ≤ 4194304) (hh : h ≤ 8388608) : IntKind.wrap .i64 (0 - IntKind.wrap .i64 ((h : Int) - IntKind.wrap .i64 (2 * (if IntKind.wrap .i64 ((h : Int) - m) > 0 then IntKind.wrap .i64 ((h : Int) - m) else 0)))) = -UpK m h := by
  rw [wr_up hm hh]
  have := UpK_le m h
  have h2 : -(8388608 : Int) ≤ UpK m h := by unfold UpK; omega
  rw [wrap_i64 (by omega) (by omega)]
  omega
theorem wr_k1 {k : Int} (hk : -8388608 ≤ k ∧ k ≤ 8388608) : IntKind.wrap .i64 (k + 1) = k + 1 ∧ IntKind.wrap .i64 (k - 1) = k - 1 := ⟨wrap_i64 (by omega) (by omega), wrap_i64 (by omega) (by omega)⟩
theorem bd_k1 {k : Int} (hk : -8388608 ≤ k ∧ k ≤ 8388608) : (-1099511627776 ≤ k + 1 ∧ k + 1 ≤ 1099511627776) ∧ (-1099511627776 ≤ k - 1 ∧ k - 1 ≤ 1099511627776) := by omega
theorem wr_h {h : Nat} (hh : h ≤ 8388608) : IntKind.wrap .i64 (0 - (h : Int)) = -(h : Int) := by rw [wrap_i64 (by omega) (by omega)]; omega
theorem wr_s {s : Nat} (hs : s ≤ 16777216) : IntKind.wrap .i64 ((s : Int) - 1 + 1) = (s : Int) := by rw [wrap_i64 (by omega) (by omega)]; omega
theorem fuel_up {n h f : Nat} {k : Int} (hf : FuelK n h (f + 1) k) : FuelK n h f (k + 2) := by unfold FuelK at *; omega
theorem fuel_no {n h : Nat} {k : Int} (hf : FuelK n h 0 k) (g : k ≤ UpK n h) : False := by unfold FuelK at hf; omega
theorem low_up {m h : Nat} {k : Int} (hl : LowK m h k) : LowK m h (k + 2) := by unfold LowK at *; omega
theorem par_up {h : Nat} {k : Int} (hp : (k - h) % 2 = 0) : (k + 2 - h) % 2 = 0 := by omega
theorem low_zero {n m : Nat} {k : Int} (hl : LowK m 0 k) (g : k ≤ UpK n 0) : k = 0 := by
  have := LowK_ge hl
  have := UpK_le n 0
  omega
theorem par_lt {h : Nat} {k k' : Int} (h1 : (k - h) % 2 = 0) (h2 : (k' - h) % 2 = 0) (h3 : k' < k + 2) (h4 : k' ≠ k) : k' < k := by omega
theorem zero_no {h : Nat} {k : Int} (h0 : h = 0) (hk : k + 2 = 0) (hlo : LowK 0 0 0 → -(h : Int) ≤ k) : False := by
  have := hlo (by unfold LowK; omega)
  omega
set_option maxHeartbeats 1000000 in
theorem k_loop (hret : ∀ s t x y, SnakeOut a b s t x y → P (snA s t x y)) : ∀ (f : Nat) (k : Int) (c : List Int), FuelK a.length h f k → Stg a b h o c d → LowK b.length h k → Hid ((k - h) % 2 = 0) → RowK (eS o a b) a.length b.length h (fun k' => k' < k) c → NoMeet a b h o c d k → (h = 0 → k = 0 → ∀ j, j < sizeK a.length b.length → c[j]? = some 0) →
    (∀ c', Stg a b h o c' d → RowK (eS o a b) a.length b.length h allK c' → (∀ K, NoMeet a b h o c' d K) → p19 w0 P a b h o c' d) → p41 w0 (fun r _ => P r) a b h o c d k
  | f, k, c, hf, S, hlo, hpar, row, nm, hz, next => by
    refine myers_snake.n41_in ?_
    rw [myers_snake.b42_eq, wr_up S.hn S.hh, condB_decide]
    refine ite_split (fun g => ?_) (fun g => ?_)
    · have hk : rngK a.length b.length h k := rng_mk hlo g hpar
      have hkb := rng_bd hk S.hh
      have go : ∀ s t : Nat, (s : Int) = t + k → Hid (wayF (eS o a b) s t ≤ h) → (∀ l : Nat, (∀ i, i < l → eS o a b (s + i) (t + i) = true) → eS o a b (s + l) (t + l) = false → Far (eS o a b) h (s + l) (t + l)) → p58 w0 P a b h o c d k s := by
        intro s t hst hway hfar
        refine snake58 S hk hst hway hret fun l h1 h2 hmeet => ?_
        cases f with
        | zero => exact (fuel_no hf g).elim
        | succ f =>
          have hst2 : ((s + l : Nat) : Int) = (t + l : Nat) + k := by clear hkb; omega
          refine k_loop hret f (k + 2) _ (fuel_up hf) (S.set hpar) (low_up hlo) (par_up hpar) (row.put S.cl hk hst2 (hfar l h1 h2)) ?_ (fun h0 hk0 => ?_) next
          · intro e1 e2 k' hr hlt hz' X X' hX hX'
            by_cases ek : k' = k
            · subst ek
              rw [List.getElem?_set_self (by rw [S.cl]; exact wix_lt _ _ _)] at hX
              cases hX
              exact hmeet e1 e2 hz' X' hX'
            · rw [List.getElem?_set_ne (rng_ne hk hr (fun e => ek e.symm))] at hX
              exact nm e1 e2 k' hr (par_lt hpar hr.2.2 hlt ek) hz' X X' hX hX'
          · exact (zero_no h0 hk0 (fun _ => LowK_ge hlo)).elim
      obtain ⟨ew1, ew2⟩ := wr_k1 hkb
      obtain ⟨bd1, bd2⟩ := bd_k1 hkb
      have up : ∀ s t : Nat, c[wix a.length b.length (k + 1)]? = some (s : Int) → (s : Int) = t + k → Hid (wayF (eS o a b) s t ≤ h) → (∀ l : Nat, (∀ i, i < l → eS o a b (s + i) (t + i) = true) → eS o a b (s + l) (t + l) = false → Far (eS o a b) h (s + l) (t + l)) → p55 w0 P a b h o c d k true := by
        intro s t hc hst hway hfar
        refine myers_snake.n55_in ?_
        rw [myers_snake.b55_eq, condB_true', ew1]
        refine wrap_spec (n := a.length) (m := b.length) (sizeK_le S.hn S.hm) bd1 (isI_in ?_)
        refine opt_in (arr_idx (SS_c S.ho c d) S.cl (wix_lt _ _ _)) ?_
        refine opt_in (arr_load (SS_c S.ho c d) S.cl hc) (isI_in ?_)
        exact go s t hst hway hfar
      have left : ∀ s t : Nat, c[wix a.length b.length (k - 1)]? = some ((s : Int) - 1) → (s : Int) = t + k → Hid (wayF (eS o a b) s t ≤ h) → (∀ l : Nat, (∀ i, i < l → eS o a b (s + i) (t + i) = true) → eS o a b (s + l) (t + l) = false → Far (eS o a b) h (s + l) (t + l)) → p55 w0 P a b h o c d k false := by
        intro s t hc hst hway hfar
        refine myers_snake.n55_in ?_
        rw [myers_snake.b55_eq, condB_false', ew2]
        refine wrap_spec (n := a.length) (m := b.length) (sizeK_le S.hn S.hm) bd2 (isI_in ?_)
        refine opt_in (arr_idx (SS_c S.ho c d) S.cl (wix_lt _ _ _)) ?_
        refine opt_in (arr_load (SS_c S.ho c d) S.cl hc) (isI_in ?_)
        rw [wr_s (bd_sum S.hn S.hh (eS_bound hway).1)]
        exact go s t hst hway hfar
      rw [condB_ibeq, wr_h S.hh]
      rcases S.prev with h0 | ⟨h0, e, r⟩
      · subst h0
        have hk0 : k = 0 := low_zero hlo g
        subst hk0
        rw [if_pos (by rfl)]
        refine up 0 0 (hz rfl rfl _ (wix_lt _ _ _)) rfl ?_ fun l h1 h2 => far_here h1 h2
        show wayF (eS o a b) 0 0 ≤ 0
        rw [way_zero]
        exact Nat.le_refl _
      · subst e
        refine ite_split (fun g1 => ?_) (fun g1 => ?_)
        · obtain ⟨s, t, q1, q2, q3, q4, q5, q6⟩ := start_up r hk (ne_top g1) (.inl (by rw [g1]; rfl))
          exact up s t q1 q2 q4 fun l h1 h2 => far_next q4 h1 h2 q5 q6
        · rw [condB_ibne]
          refine ite_split (fun g2 => ?_) (fun g2 => ?_)
          · obtain ⟨s, t, q1, q2, q3, q4, q5, q6⟩ := start_left (n := a.length) (m := b.length) r hk g1 (.inl g2)
            exact left s t q1 q2 q4 fun l h1 h2 => far_next q4 h1 h2 q5 q6
          · obtain ⟨hr1, hr2⟩ := rng_out hk g1 g2
            obtain ⟨x1, y1, u1, u2, u3⟩ := r (k - 1) hr1 trivial
            obtain ⟨x2, y2, v1, v2, v3⟩ := r (k + 1) hr2 trivial
            rw [ew1, ew2]
            refine wrap_spec (n := a.length) (m := b.length) (sizeK_le S.hn S.hm) bd2 (isI_in ?_)
            refine opt_in (arr_idx (SS_c S.ho c d) S.cl (wix_lt _ _ _)) ?_
            refine opt_in (arr_load (SS_c S.ho c d) S.cl u2) (isI_in ?_)
            refine wrap_spec (n := a.length) (m := b.length) (sizeK_le S.hn S.hm) bd1 (isI_in ?_)
            refine ⟨opt_in (arr_idx (SS_c S.ho c d) S.cl (wix_lt _ _ _)) rfl, opt_in (arr_load (SS_c S.ho c d) S.cl u2) rfl, ?_⟩
            refine opt_in (arr_idx (SS_c S.ho c d) S.cl (wix_lt _ _ _)) ?_
            refine opt_in (arr_load (SS_c S.ho c d) S.cl v2) (isI_in ?_)
            by_cases g3 : (x1 : Int) < x2
            · rw [decide_eq_true g3]
              obtain ⟨s, t, q1, q2, q3, q4, q5, q6⟩ := start_up r hk g2 (.inr fun v w hv hw => by rw [u2] at hv; rw [v2] at hw; cases hv; cases hw; exact g3)
              exact up s t q1 q2 q4 fun l h1 h2 => far_next q4 h1 h2 q5 q6
            · rw [decide_eq_false g3]
              obtain ⟨s, t, q1, q2, q3, q4, q5, q6⟩ := start_left r hk g1 (.inr fun v w hv hw => by rw [u2] at hv; rw [v2] at hw; cases hv; cases hw; exact Int.not_lt.1 g3)
              exact left s t q1 q2 q4 fun l h1 h2 => far_next q4 h1 h2 q5 q6
    · refine myers_snake.n97_in ?_
      rw [myers_snake.b97_eq, wr_o S.ho]
      exact next c S (row.all (Int.not_le.1 g)) fun K e1 e2 k' hr hlt hz' => nm e1 e2 k' hr (Int.lt_of_le_of_lt (rng_up hr) (Int.not_le.1 g)) hz'
end
end Go.Sv
end
section
namespace Go.Sv
section
open Go Go.RowKit Go.Proofs
variable {w0 : Base} {σ : Store} {P : AV → Prop}
variable {a b : List Int} {h : Nat} {c d cA cB : List Int}
abbrev p13 (w0 : Base) (P : AV → Prop) (a b : List Int) (h : Nat) (cA cB : List Int) : Prop :=
  myers_snake.n13 (myers_snake.X w0 0) w0 0 (fun r _ => P r) [.arr 1 (iP cA) false, .arr 1 (iP cB) false] (intsA a) (intsA b) a.length b.length (sizeK a.length b.length : Nat) (rwA a b 0) (rwA a b 1) (oddN a b) h
structure Rnd (a b : List Int) (h : Nat) (cA cB : List Int) : Prop where
  hn : a.length ≤ 4194304
  hm : b.length ≤ 4194304
  two : 2 ≤ cntL a b
  al : cA.length = sizeK a.length b.length
  bl : cB.length = sizeK a.length b.length
  rA : h = 0 ∨ ∃ h0, h = h0 + 1 ∧ RowK (eS 1 a b) a.length b.length h0 allK cA
  rB : h = 0 ∨ ∃ h0, h = h0 + 1 ∧ RowK (eS 0 a b) a.length b.length h0 allK cB
  z : h = 0 → ∀ j, j < sizeK a.length b.length → cA[j]? = some 0 ∧ cB[j]? = some 0
  en : 2 * h ≤ cntL a b + (a.length + b.length) % 2
theorem cnt_facts (a b : List Int) : cntL a b ≤ a.length + b.length ∧ cntL a b % 2 = (a.length + b.length) % 2 := ⟨(way_facts (e := eqL a b) a.length b.length).1, (way_facts (e := eqL a b) a.length b.length).2.2.2⟩
theorem h_small {n m D h : Nat} (hn : n ≤ 4194304) (hm : m ≤ 4194304) (hD : D ≤ n + m) (en : 2 * h ≤ D + (n + m) % 2) : h ≤ 8388600 := by omega
theorem low_first (m h : Nat) : LowK m h (-UpK m h) := by unfold LowK UpK; omega
theorem par_first (m h : Nat) : (-UpK m h - h) % 2 = 0 := by unfold UpK; omega
theorem fuel_first (n m h : Nat) : FuelK n h (h + 1) (-UpK m h) := by
  unfold FuelK
  have := UpK_le n h
  have := UpK_le m h
  omega
theorem nomeet_first {o : Nat} : NoMeet a b h o c d (-UpK b.length h) := by
  intro _ _ k' hr hlt _
  have := hr.1
  unfold UpK at hlt
  omega
theorem stage {o : Nat} (S : Stg a b h o c d) (hz : h = 0 → ∀ j, j < sizeK a.length b.length → c[j]? = some 0) (hret : ∀ s t x y, SnakeOut a b s t x y → P (snA s t x y))
    (next : ∀ c', Stg a b h o c' d → RowK (eS o a b) a.length b.length h allK c' → (∀ K, NoMeet a b h o c' d K) → p19 w0 P a b h o c' d) : p41 w0 (fun r _ => P r) a b h o c d (-UpK b.length h) :=
  k_loop hret (h + 1) _ c (fuel_first _ _ _) S (low_first _ _) (par_first _ _) RowK.none nomeet_first (fun h0 _ => hz h0) next
theorem no_more {D h q : Nat} (hq : q = 0 ∨ q = 1) (hp : D % 2 = q) (en : 2 * h ≤ D + q) (hno : D ≠ 2 * h - q ∨ h = 0 ∧ q = 1) (h2 : 2 ≤ D) : 2 * (h + 1) ≤ D + q := by omega
theorem meet1 (hmm : RowK (eS 1 a b) a.length b.length h allK cA) (hmB : h = 0 ∨ ∃ h0, h = h0 + 1 ∧ RowK (eS 0 a b) a.length b.length h0 allK cB) (hodd : (a.length + b.length) % 2 = 1) (two : 2 ≤ cntL a b) (nm : ∀ K, NoMeet a b h 1 cA cB K) : cntL a b ≠ 2 * h - 1 := by
  intro e
  rcases hmB with h0 | ⟨h0, e0, r⟩
  · rw [h0] at e
    rw [e] at two
    exact absurd two (by decide)
  · subst e0
    unfold eS at hmm r
    rw [if_pos rfl] at hmm
    rw [if_neg (by decide)] at r
    obtain ⟨k, k1, k2, hk⟩ := rows_meet (h := h0 + 1) (h' := h0) (by rw [e]; omega) hmm r
    obtain ⟨x1, y1, u1, u2, u3⟩ := hmm k k1 trivial
    obtain ⟨x2, y2, v1, v2, v3⟩ := r _ k2 trivial
    have g1 := hk _ _ u2 v2
    have g2 := nm (k + 1) (by show (((a.length + b.length) % 2 : Nat) : Int) = ((1 : Nat) : Int); rw [hodd]) (Nat.succ_le_succ (Nat.zero_le _)) k k1 (Int.lt_succ k) k2 _ _ u2 v2
    exact absurd g2 (Int.not_lt.2 g1)
theorem meet0 (hmA : RowK (eS 1 a b) a.length b.length h allK cA) (hmB : RowK (eS 0 a b) a.length b.length h allK cB) (hodd : (a.length + b.length) % 2 = 0) (nm : ∀ K, NoMeet a b h 0 cB cA K) : cntL a b ≠ 2 * h := by
  intro e
  unfold eS at hmA hmB
  rw [if_pos rfl] at hmA
  rw [if_neg (by decide)] at hmB
  obtain ⟨k, k1, k2, hk⟩ := rows_meet (h := h) (h' := h) (by rw [e]; omega) hmA hmB
  obtain ⟨x1, y1, u1, u2, u3⟩ := hmA k k1 trivial
  obtain ⟨x2, y2, v1, v2, v3⟩ := hmB _ k2 trivial
  have g1 := hk _ _ u2 v2
  have ez : (a.length : Int) - b.length - ((a.length : Int) - b.length - k) = k := by clear hk g1 u2 v2 u1 v1 e; omega
  have g2 := nm ((a.length : Int) - b.length - k + 1) (by show (((a.length + b.length) % 2 : Nat) : Int) = ((0 : Nat) : Int); rw [hodd]) (Nat.zero_le _) _ k2 (Int.lt_succ _) (by rw [ez]; exact k1) _ _ v2 (by rw [ez]; exact u2)
  rw [Int.add_comm] at g2
  exact absurd g2 (Int.not_lt.2 g1)
theorem par_two (n : Nat) : n % 2 = 0 ∨ n % 2 = 1 := by omega
theorem fuel_13 {D h f q : Nat} (hf : D + 2 < 2 * h + 2 * (f + 1)) : D + 2 < 2 * (h + 1) + 2 * f := by omega
theorem end_13 {D h q : Nat} (hf : D + 2 < 2 * h + 2 * 0) (hq : q = 0 ∨ q = 1) (en : 2 * h ≤ D + q) : False := by omega
theorem wr_h1 {h : Nat} (hh : h ≤ 8388600) : IntKind.wrap .i64 ((h : Int) + 1) = ((h + 1 : Nat) : Int) := by rw [wrap_i64 (by omega) (by omega)]; omega
theorem bd_h {h : Nat} (hh : h ≤ 8388600) : h ≤ 8388608 := by omega
set_option maxHeartbeats 4000000 in
theorem round_loop (hret : ∀ s t x y, SnakeOut a b s t x y → P (snA s t x y)) : ∀ (f h : Nat) (cA cB : List Int), cntL a b + 2 < 2 * h + 2 * f → Rnd a b h cA cB → p13 w0 P a b h cA cB
  | 0, h, cA, cB, hf, S => (end_13 hf (par_two _) S.en).elim
  | f + 1, h, cA, cB, hf, S => by
    obtain ⟨cf1, cf2⟩ := cnt_facts a b
    have hh := h_small S.hn S.hm cf1 S.en
    have e1 : oddN a b = 1 → 2 * h ≤ cntL a b + 1 := fun e => by
      have := S.en
      have e' : (a.length + b.length) % 2 = 1 := Int.ofNat.inj e
      rwa [e'] at this
    have e0 : oddN a b = 0 → 2 * h ≤ cntL a b + 0 := fun e => by
      have := S.en
      have e' : (a.length + b.length) % 2 = 0 := Int.ofNat.inj e
      rwa [e'] at this
    refine myers_snake.n13_in ?_
    rw [myers_snake.b14_eq]
    refine opt2_in (v := onesA) rfl ?_
    repeat ((with_reducible first | apply opt_in | apply wI | apply wT | apply wP | apply wS | apply wB); exact rfl)
    refine myers_snake.n19_in ?_
    rw [myers_snake.b20_eq, condB_decide, if_pos (by decide)]
    refine opt_in (idx_ro (k := 0) tab3 (show [intP 1, intP 0][0]? = some (intP 1) from rfl) rfl) ?_
    repeat ((with_reducible first | apply opt_in | apply wI | apply wT | apply wP | apply wS | apply wB); exact rfl)
    rw [condB_ibeq, if_neg (by decide)]
    refine myers_snake.n38_in ?_
    rw [myers_snake.b38_eq, wr_lo S.hm (bd_h hh)]
    have S1 : Stg a b h 1 cA cB := ⟨S.hn, S.hm, .inr rfl, bd_h hh, S.two, S.al, S.bl, S.rA, fun ho => by
      rcases S.rB with h0 | ⟨h0, e, r⟩
      · rw [h0] at ho; exact absurd ho (by decide)
      · rw [e]; exact r, e1⟩
    refine stage S1 (fun h0 j hj => (S.z h0 j hj).1) hret fun cA' S1' rA' nm1 => ?_
    show p19 w0 P a b h 1 cA' cB
    refine myers_snake.n19_in ?_
    rw [myers_snake.b20_eq, condB_decide, if_pos (by decide)]
    refine opt_in (idx_ro (k := 1) tab3 (show [intP 1, intP 0][1]? = some (intP 0) from rfl) rfl) ?_
    repeat ((with_reducible first | apply opt_in | apply wI | apply wT | apply wP | apply wS | apply wB); exact rfl)
    rw [condB_ibeq, if_pos (by decide)]
    refine myers_snake.n38_in ?_
    rw [myers_snake.b38_eq, wr_lo S.hm (bd_h hh)]
    have S0 : Stg a b h 0 cB cA' := ⟨S.hn, S.hm, .inl rfl, bd_h hh, S.two, S.bl, S1'.cl, S.rB, fun _ => rA', e0⟩
    refine stage S0 (fun h0 j hj => (S.z h0 j hj).2) hret fun cB' S0' rB' nm0 => ?_
    show p19 w0 P a b h 0 cB' cA'
    refine myers_snake.n19_in ?_
    rw [myers_snake.b20_eq, condB_decide, if_neg (by decide)]
    refine myers_snake.n98_in ?_
    rw [myers_snake.b98_eq, wr_h1 hh]
    refine round_loop hret f (h + 1) cA' cB' (fuel_13 (q := 0) hf) ⟨S.hn, S.hm, S.two, S1'.cl, S0'.cl, .inr ⟨h, rfl, rA'⟩, .inr ⟨h, rfl, rB'⟩, fun e => absurd e (Nat.succ_ne_zero _), ?_⟩
    refine no_more (par_two _) cf2 S.en ?_ S.two
    rcases par_two (a.length + b.length) with hp | hp
    · rw [hp]
      exact .inl (meet0 rA' rB' hp nm0)
    · rw [hp]
      exact .inl (meet1 rA' S.rB hp S.two nm1)
def SnakeIs (a b : List Int) (r : AV) : Prop := ∃ s t x y, SnakeOut a b s t x y ∧ r = snA s t x y
theorem mk_ints {n : Nat} (h : n ≤ 1099511627776) : mkObj 3 ti3 (n : Int) (n : Int) = some (.arr 1 (iP (List.replicate n 0)) false) := by
  unfold mkObj
  show (match (if 0 ≤ (n : Int) ∧ (n : Int) ≤ (n : Int) ∧ roomy (n : Int).toNat 8 ∧ (PV.int .i64 0).cells.length = 1 then some (AV.arr ([] : Store).length (n : Int).toNat 0 (n : Int).toNat, ([] : Store) ++ [SObj.arr 1 (List.replicate (n : Int).toNat (PV.int .i64 0)) false]) else none) with
    | some (_, [ob]) => some ob
    | _ => none) = _
  have e : (n : Int).toNat = n := Int.toNat_natCast n
  rw [if_pos ⟨Int.natCast_nonneg n, Int.le_refl _, by rw [e]; exact ⟨by omega, by omega⟩, rfl⟩, e]
  simp only [List.nil_append]
  rw [show iP (List.replicate n 0) = List.replicate n (PV.int .i64 0) from List.map_replicate]
theorem wr_size {n m : Nat} (hn : n ≤ 4194304) (hm : m ≤ 4194304) : IntKind.wrap .i64 (IntKind.wrap .i64 (2 * (if (m : Int) < n then (m : Int) else n)) + 2) = ((sizeK n m : Nat) : Int) := by
  unfold sizeK
  by_cases g : (m : Int) < n
  · rw [if_pos g, wrap_i64 (n := 2 * (m : Int)) (by omega) (by omega), wrap_i64 (by omega) (by omega)]; omega
  · rw [if_neg g, wrap_i64 (n := 2 * (n : Int)) (by omega) (by omega), wrap_i64 (by omega) (by omega)]; omega
theorem wr_odd {n m : Nat} (hn : n ≤ 4194304) (hm : m ≤ 4194304) : Int.tmod (IntKind.wrap .i64 ((n : Int) + m)) 2 = (((n + m) % 2 : Nat) : Int) := by
  rw [wrap_i64 (by omega) (by omega), Int.tmod_eq_emod_of_nonneg (by omega)]
  omega
theorem snake_spec {R : AV → Store → Prop} (L : Laid w0.w) (hn : a.length ≤ 4194304) (hm : b.length ≤ 4194304) (two : 2 ≤ cntL a b) (hR : ∀ s t x y, SnakeOut a b s t x y → R (snA s t x y) σ) : SCalls (cx w0) myers_snake.id [intsA a, intsA b] σ R := by
  refine SCalls.some_of (P := SnakeIs a b) L rfl (fun w1 L1 => ?_) (fun r ⟨s, t, x, y, _, e⟩ => by rw [e]; rfl) (fun r ⟨s, t, x, y, h, e⟩ => by rw [e]; exact hR s t x y h)
  refine myers_snake.calls ?_
  rw [myers_snake.b0_eq]
  repeat ((with_reducible first | apply opt_in | apply wI | apply wT | apply wP | apply wS | apply wB); exact rfl)
  rw [List.length_map, List.length_map, wr_size hn hm]
  have hs := sizeK_le hn hm
  refine opt_in (mk_ints hs) ?_
  refine opt_in (mk_ints hs) ?_
  refine ⟨by decide, ?_⟩
  rw [wr_odd hn hm]
  have zl : (List.replicate (sizeK a.length b.length) (0 : Int)).length = sizeK a.length b.length := List.length_replicate
  have zg : ∀ j, j < sizeK a.length b.length → (List.replicate (sizeK a.length b.length) (0 : Int))[j]? = some 0 := fun j hj => by rw [List.getElem?_replicate, if_pos hj]
  have er : ∀ id : Nat, mkRes ti3 id ((sizeK a.length b.length : Nat) : Int) = rwA a b id := fun id => by
    show AV.arr id ((sizeK a.length b.length : Nat) : Int).toNat 0 ((sizeK a.length b.length : Nat) : Int).toNat = _
    rw [Int.toNat_natCast]
  rw [er, er]
  exact round_loop (P := SnakeIs a b) (fun s t x y h => ⟨s, t, x, y, h, rfl⟩) (cntL a b + 2) 0 _ _ (by generalize cntL a b = D; omega) ⟨hn, hm, two, zl, zl, .inl rfl, .inl rfl, fun _ j hj => ⟨zg j hj, zg j hj⟩, Nat.zero_le _⟩
end
end Go.Sv
end
