/- What package myers answers: the middle of a shortest way, round by round. -/
import Derived.Test.YtimmjplgogpglaaDoorFdH
set_option linter.unusedVariables false
set_option linter.unusedSimpArgs false
set_option maxRecDepth 100000
namespace Go.Sv
def LowK (m h : Nat) (k : Int) : Prop := -((h : Int) - 2 * max 0 ((h : Int) - m)) ≤ k
def UpK (n h : Nat) : Int := (h : Int) - 2 * max 0 ((h : Int) - n)
def FuelK (n h f : Nat) (k : Int) : Prop := UpK n h - k < 2 * (f : Int)
theorem rng_mk {n m h : Nat} {k : Int} (h1 : LowK m h k) (h2 : k ≤ UpK n h) (h3 : (k - h) % 2 = 0) : rngK n m h k := ⟨h1, h2, h3⟩
theorem UpK_le (n h : Nat) : UpK n h ≤ h := by unfold UpK; omega
theorem LowK_ge {m h : Nat} {k : Int} (hl : LowK m h k) : -(h : Int) ≤ k := by unfold LowK at hl; omega
theorem rng_up {n m h : Nat} {k : Int} (hr : rngK n m h k) : k ≤ UpK n h := hr.2.1
theorem rng_out {n m h0 : Nat} {k : Int} (hk : rngK n m (h0 + 1) k) (h1 : k ≠ -((h0 + 1 : Nat) : Int)) (h2 : k ≠ ((h0 + 1 : Nat) : Int)) : rngK n m h0 (k - 1) ∧ rngK n m h0 (k + 1) := by
  obtain ⟨k1, k2, k3⟩ := hk
  refine ⟨⟨?_, ?_, ?_⟩, ⟨?_, ?_, ?_⟩⟩
  · omega
  · omega
  · clear k1 k2; omega
  · omega
  · omega
  · clear k1 k2; omega
theorem ne_top {h0 : Nat} {k : Int} (g : k = -((h0 + 1 : Nat) : Int)) : k ≠ (h0 : Int) + 1 := by omega
theorem Stg.set {a b : List Int} {h o : Nat} {c d : List Int} {k v : Int} (S : Stg a b h o c d) (hk : (k - h) % 2 = 0) : Stg a b h o (c.set (wix a.length b.length k) v) d := by
  refine ⟨S.hn, S.hm, S.ho, S.hh, S.two, by rw [List.length_set]; exact S.cl, S.dl, ?_, S.drow, S.en⟩
  rcases S.prev with e | ⟨h0, e, r⟩
  · exact .inl e
  · exact .inr ⟨h0, e, r.keep (by omega)⟩
section
open Go Go.RowKit Go.Proofs
variable {w0 : Base} {σ : Store} {P : AV → Prop}
variable {a b : List Int} {h o : Nat} {c d : List Int} {k : Int}
theorem wr_y {s t h : Nat} {k : Int} (hst : (s : Int) = t + k) (ht : t ≤ 16777216) : IntKind.wrap .i64 ((s : Int) - k) = (t : Int) := by
  have e : (s : Int) - k = t := by omega
  rw [e]
  exact wrap_i64 (by omega) (by omega)
theorem wr_o {o : Nat} (ho : o = 0 ∨ o = 1) : IntKind.wrap .i64 (((1 - o : Nat) : Int) + 1) = ((1 - o + 1 : Nat) : Int) := by rw [wrap_i64 (by omega) (by omega)]; omega
theorem bd_sum {n h x : Nat} (hn : n ≤ 4194304) (hh : h ≤ 8388608) (hx : x ≤ n + h) : x ≤ 16777216 := by omega
theorem snake58 (S : Stg a b h o c d) (hk : rngK a.length b.length h k) {s t : Nat} (hst : (s : Int) = t + k) (hway : Hid (wayF (eS o a b) s t ≤ h)) (hret : ∀ s t x y, SnakeOut a b s t x y → P (snA s t x y))
    (hgo : ∀ l : Nat, (∀ i, i < l → eS o a b (s + i) (t + i) = true) → eS o a b (s + l) (t + l) = false → (oddN a b = o → o ≤ h → rngK a.length b.length (h - o) ((a.length : Int) - b.length - k) → ∀ X' : Int, d[wix a.length b.length ((a.length : Int) - b.length - k)]? = some X' → ((s + l : Nat) : Int) + X' < a.length) → p41 w0 (fun r _ => P r) a b h o (c.set (wix a.length b.length k) ((s + l : Nat) : Int)) d (k + 2)) :
    p58 w0 P a b h o c d k s := by
  refine myers_snake.n58_in ?_
  rw [myers_snake.b58_eq, wr_y (h := h) hst (bd_sum S.hm S.hh (eS_bound hway).2)]
  refine slide S.hn S.hm S.ho (a.length + 1) s t (Nat.lt_of_lt_of_le (Nat.lt_succ_self _) (Nat.le_add_right _ _)) (bd_sum S.hn S.hh (eS_bound hway).1) (bd_sum S.hm S.hh (eS_bound hway).2) fun l h1 h2 => ?_
  have hw2 : Hid (wayF (eS o a b) (s + l) (t + l) ≤ h) := by
    show wayF (eS o a b) (s + l) (t + l) ≤ h
    rw [run_same l h1]; exact hway
  exact snake75 S hk hst (bd_sum S.hn S.hh (eS_bound hw2).1) (bd_sum S.hm S.hh (eS_bound hw2).2) hway h1 hret (hgo l h1 h2)
theorem far_here {e : Nat → Nat → Bool} {l : Nat} (h1 : ∀ i, i < l → e (0 + i) (0 + i) = true) (h2 : e (0 + l) (0 + l) = false) : Far e 0 (0 + l) (0 + l) := by
  have := far_zero (e := e) (l := l) (fun i hi => by have := h1 i hi; rwa [Nat.zero_add] at this) (by rwa [Nat.zero_add] at h2)
  rwa [Nat.zero_add]
theorem wr_up {n h : Nat} (hn : n ≤ 4194304) (hh : h ≤ 8388608) : IntKind.wrap .i64 ((h : Int) - IntKind.wrap .i64 (2 * (if IntKind.wrap .i64 ((h : Int) - n) > 0 then IntKind.wrap .i64 ((h : Int) - n) else 0))) = UpK n h := by
  unfold UpK
  rw [wrap_i64 (n := (h : Int) - n) (by omega) (by omega)]
  by_cases g : (h : Int) - n > 0
  · rw [if_pos g, wrap_i64 (n := 2 * ((h : Int) - n)) (by omega) (by omega), wrap_i64 (by omega) (by omega)]; omega
  · rw [if_neg g, wrap_i64 (n := 2 * 0) (by omega) (by omega), wrap_i64 (by omega) (by omega)]; omega
theorem wr_lo {m h : Nat} (hm : m ≤ 4194304) (hh : h ≤ 8388608) : IntKind.wrap .i64 (0 - IntKind.wrap .i64 ((h : Int) - IntKind.wrap .i64 (2 * (if IntKind.wrap .i64 ((h : Int) - m) > 0 then IntKind.wrap .i64 ((h : Int) - m) else 0)))) = -UpK m h := by
  rw [wr_up hm hh]
  have := UpK_le m h
  have h2 : -(8388608 : Int) ≤ UpK m h := by unfold UpK; omega
  rw [wrap_i64 (by omega) (by omega)]
  omega
theorem wr_k1 {k : Int} (hk : -8388608 ≤ k ∧ k ≤ 8388608) : IntKind.wrap .i64 (k + 1) = k + 1 ∧ IntKind.wrap .i64 (k - 1) = k - 1 := ⟨wrap_i64 (by omega) (by omega), wrap_i64 (by omega) (by omega)⟩
theorem bd_k1 {k : Int} (hk : -8388608 ≤ k ∧ k ≤ 8388608) : (-1099511627776 ≤ k + 1 ∧ k + 1 ≤ 1099511627776) ∧ (-1099511627776 ≤ k - 1 ∧ k - 1 ≤ 1099511627776) := by omega
theorem wr_h {h : Nat} (hh : h ≤ 8388608) : IntKind.wrap .i64 (0 - (h : Int)) = -(h : Int) := by rw [wrap_i64 (by omega) (by omega)]; omega
theorem wr_s {s : Nat} (hs : s ≤ 16777216) : IntKind.wrap .i64 ((s : Int) - 1 + 1) = (s : Int) := by rw [wrap_i64 (by omega) (by omega)]; omega
theorem fuel_up {n h f : Nat} {k : Int} (hf : FuelK n h (f + 1) k) : FuelK n h f (k + 2) := by unfold FuelK at *; omega
theorem fuel_no {n h : Nat} {k : Int} (hf : FuelK n h 0 k) (g : k ≤ UpK n h) : False := by unfold FuelK at hf; omega
theorem low_up {m h : Nat} {k : Int} (hl : LowK m h k) : LowK m h (k + 2) := by unfold LowK at *; omega
theorem par_up {h : Nat} {k : Int} (hp : (k - h) % 2 = 0) : (k + 2 - h) % 2 = 0 := by omega
theorem low_zero {n m : Nat} {k : Int} (hl : LowK m 0 k) (g : k ≤ UpK n 0) : k = 0 := by
  have := LowK_ge hl
  have := UpK_le n 0
  omega
theorem par_lt {h : Nat} {k k' : Int} (h1 : (k - h) % 2 = 0) (h2 : (k' - h) % 2 = 0) (h3 : k' < k + 2) (h4 : k' ≠ k) : k' < k := by omega
theorem zero_no {h : Nat} {k : Int} (h0 : h = 0) (hk : k + 2 = 0) (hlo : LowK 0 0 0 → -(h : Int) ≤ k) : False := by
  have := hlo (by unfold LowK; omega)
  omega
set_option maxHeartbeats 1000000 in
theorem k_loop (hret : ∀ s t x y, SnakeOut a b s t x y → P (snA s t x y)) : ∀ (f : Nat) (k : Int) (c : List Int), FuelK a.length h f k → Stg a b h o c d → LowK b.length h k → Hid ((k - h) % 2 = 0) → RowK (eS o a b) a.length b.length h (fun k' => k' < k) c → NoMeet a b h o c d k → (h = 0 → k = 0 → ∀ j, j < sizeK a.length b.length → c[j]? = some 0) →
    (∀ c', Stg a b h o c' d → RowK (eS o a b) a.length b.length h allK c' → (∀ K, NoMeet a b h o c' d K) → p19 w0 P a b h o c' d) → p41 w0 (fun r _ => P r) a b h o c d k
  | f, k, c, hf, S, hlo, hpar, row, nm, hz, next => by
    refine myers_snake.n41_in ?_
    rw [myers_snake.b42_eq, wr_up S.hn S.hh, condB_decide]
    refine ite_split (fun g => ?_) (fun g => ?_)
    · have hk : rngK a.length b.length h k := rng_mk hlo g hpar
      have hkb := rng_bd hk S.hh
      have go : ∀ s t : Nat, (s : Int) = t + k → Hid (wayF (eS o a b) s t ≤ h) → (∀ l : Nat, (∀ i, i < l → eS o a b (s + i) (t + i) = true) → eS o a b (s + l) (t + l) = false → Far (eS o a b) h (s + l) (t + l)) → p58 w0 P a b h o c d k s := by
        intro s t hst hway hfar
        refine snake58 S hk hst hway hret fun l h1 h2 hmeet => ?_
        cases f with
        | zero => exact (fuel_no hf g).elim
        | succ f =>
          have hst2 : ((s + l : Nat) : Int) = (t + l : Nat) + k := by clear hkb; omega
          refine k_loop hret f (k + 2) _ (fuel_up hf) (S.set hpar) (low_up hlo) (par_up hpar) (row.put S.cl hk hst2 (hfar l h1 h2)) ?_ (fun h0 hk0 => ?_) next
          · intro e1 e2 k' hr hlt hz' X X' hX hX'
            by_cases ek : k' = k
            · subst ek
              rw [List.getElem?_set_self (by rw [S.cl]; exact wix_lt _ _ _)] at hX
              cases hX
              exact hmeet e1 e2 hz' X' hX'
            · rw [List.getElem?_set_ne (rng_ne hk hr (fun e => ek e.symm))] at hX
              exact nm e1 e2 k' hr (par_lt hpar hr.2.2 hlt ek) hz' X X' hX hX'
          · exact (zero_no h0 hk0 (fun _ => LowK_ge hlo)).elim
      obtain ⟨ew1, ew2⟩ := wr_k1 hkb
      obtain ⟨bd1, bd2⟩ := bd_k1 hkb
      have up : ∀ s t : Nat, c[wix a.length b.length (k + 1)]? = some (s : Int) → (s : Int) = t + k → Hid (wayF (eS o a b) s t ≤ h) → (∀ l : Nat, (∀ i, i < l → eS o a b (s + i) (t + i) = true) → eS o a b (s + l) (t + l) = false → Far (eS o a b) h (s + l) (t + l)) → p55 w0 P a b h o c d k true := by
        intro s t hc hst hway hfar
        refine myers_snake.n55_in ?_
        rw [myers_snake.b55_eq, condB_true', ew1]
        refine wrap_spec (n := a.length) (m := b.length) (sizeK_le S.hn S.hm) bd1 (isI_in ?_)
        refine opt_in (arr_idx (SS_c S.ho c d) S.cl (wix_lt _ _ _)) ?_
        refine opt_in (arr_load (SS_c S.ho c d) S.cl hc) (isI_in ?_)
        exact go s t hst hway hfar
      have left : ∀ s t : Nat, c[wix a.length b.length (k - 1)]? = some ((s : Int) - 1) → (s : Int) = t + k → Hid (wayF (eS o a b) s t ≤ h) → (∀ l : Nat, (∀ i, i < l → eS o a b (s + i) (t + i) = true) → eS o a b (s + l) (t + l) = false → Far (eS o a b) h (s + l) (t + l)) → p55 w0 P a b h o c d k false := by
        intro s t hc hst hway hfar
        refine myers_snake.n55_in ?_
        rw [myers_snake.b55_eq, condB_false', ew2]
        refine wrap_spec (n := a.length) (m := b.length) (sizeK_le S.hn S.hm) bd2 (isI_in ?_)
        refine opt_in (arr_idx (SS_c S.ho c d) S.cl (wix_lt _ _ _)) ?_
        refine opt_in (arr_load (SS_c S.ho c d) S.cl hc) (isI_in ?_)
        rw [wr_s (bd_sum S.hn S.hh (eS_bound hway).1)]
        exact go s t hst hway hfar
      rw [condB_ibeq, wr_h S.hh]
      rcases S.prev with h0 | ⟨h0, e, r⟩
      · subst h0
        have hk0 : k = 0 := low_zero hlo g
        subst hk0
        rw [if_pos (by rfl)]
        refine up 0 0 (hz rfl rfl _ (wix_lt _ _ _)) rfl ?_ fun l h1 h2 => far_here h1 h2
        show wayF (eS o a b) 0 0 ≤ 0
        rw [way_zero]
        exact Nat.le_refl _
      · subst e
        refine ite_split (fun g1 => ?_) (fun g1 => ?_)
        · obtain ⟨s, t, q1, q2, q3, q4, q5, q6⟩ := start_up r hk (ne_top g1) (.inl (by rw [g1]; rfl))
          exact up s t q1 q2 q4 fun l h1 h2 => far_next q4 h1 h2 q5 q6
        · rw [condB_ibne]
          refine ite_split (fun g2 => ?_) (fun g2 => ?_)
          · obtain ⟨s, t, q1, q2, q3, q4, q5, q6⟩ := start_left (n := a.length) (m := b.length) r hk g1 (.inl g2)
            exact left s t q1 q2 q4 fun l h1 h2 => far_next q4 h1 h2 q5 q6
          · obtain ⟨hr1, hr2⟩ := rng_out hk g1 g2
            obtain ⟨x1, y1, u1, u2, u3⟩ := r (k - 1) hr1 trivial
            obtain ⟨x2, y2, v1, v2, v3⟩ := r (k + 1) hr2 trivial
            rw [ew1, ew2]
            refine wrap_spec (n := a.length) (m := b.length) (sizeK_le S.hn S.hm) bd2 (isI_in ?_)
            refine opt_in (arr_idx (SS_c S.ho c d) S.cl (wix_lt _ _ _)) ?_
            refine opt_in (arr_load (SS_c S.ho c d) S.cl u2) (isI_in ?_)
            refine wrap_spec (n := a.length) (m := b.length) (sizeK_le S.hn S.hm) bd1 (isI_in ?_)
            refine ⟨opt_in (arr_idx (SS_c S.ho c d) S.cl (wix_lt _ _ _)) rfl, opt_in (arr_load (SS_c S.ho c d) S.cl u2) rfl, ?_⟩
            refine opt_in (arr_idx (SS_c S.ho c d) S.cl (wix_lt _ _ _)) ?_
            refine opt_in (arr_load (SS_c S.ho c d) S.cl v2) (isI_in ?_)
            by_cases g3 : (x1 : Int) < x2
            · rw [decide_eq_true g3]
              obtain ⟨s, t, q1, q2, q3, q4, q5, q6⟩ := start_up r hk g2 (.inr fun v w hv hw => by rw [u2] at hv; rw [v2] at hw; cases hv; cases hw; exact g3)
              exact up s t q1 q2 q4 fun l h1 h2 => far_next q4 h1 h2 q5 q6
            · rw [decide_eq_false g3]
              obtain ⟨s, t, q1, q2, q3, q4, q5, q6⟩ := start_left r hk g1 (.inr fun v w hv hw => by rw [u2] at hv; rw [v2] at hw; cases hv; cases hw; exact Int.not_lt.1 g3)
              exact left s t q1 q2 q4 fun l h1 h2 => far_next q4 h1 h2 q5 q6
    · refine myers_snake.n97_in ?_
      rw [myers_snake.b97_eq, wr_o S.ho]
      exact next c S (row.all (Int.not_le.1 g)) fun K e1 e2 k' hr hlt hz' => nm e1 e2 k' hr (Int.lt_of_le_of_lt (rng_up hr) (Int.not_le.1 g)) hz'
end
end Go.Sv
