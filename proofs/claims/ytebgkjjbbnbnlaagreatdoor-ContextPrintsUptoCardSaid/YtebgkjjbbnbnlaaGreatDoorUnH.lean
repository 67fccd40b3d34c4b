/- The document's answer for a file's text; the law UnifiedPrints. -/
import Derived.Test.YtebgkjjbbnbnlaaGreatDoorUnG
set_option linter.unusedVariables false
set_option linter.unusedSimpArgs false
set_option maxRecDepth 100000
namespace Go.Sv
section
open Go Go.RowKit Go.Proofs
variable {w0 : Base} {σ : Store} {R : AV → Store → Prop}
theorem rv_loop (L : Laid w0.w) (S : Store) (xs : List PV) (hx : xs.length ≤ 1048576) (v : AV) : ∀ (r : List Hnk) (k : Nat), xs.drop k = r.map hnkP → (∀ h ∈ r, HnkOK h) → (r.all validF = false → v = .pv (.int .i64 100)) →
    (r.all validF = true → selvageref11_Faults.n31 (selvageref11_Faults.X w0 0) w0 0 (fun r' _ => r' = v) S (.pv (.sl xs))) →
    selvageref11_Faults.n14 (selvageref11_Faults.X w0 0) w0 0 (fun r' _ => r' = v) S (.pv (.sl xs)) k
  | [], k, hd, _, _, hn => by
    have hk := drop_end hd
    refine selvageref11_Faults.n14_in ?_
    rw [selvageref11_Faults.b15_eq]
    repeat ((with_reducible first | apply opt_in | apply wI | apply wT | apply wP | apply wS | apply wB); exact rfl)
    rw [condB_decide, if_neg (by omega)]
    exact hn rfl
  | h :: r, k, hd, ht, hb, hn => by
    obtain ⟨h1, h2, hk⟩ := drop_facts hd
    have ok := ht h (by simp)
    refine selvageref11_Faults.n14_in ?_
    rw [selvageref11_Faults.b15_eq]
    repeat ((with_reducible first | apply opt_in | apply wI | apply wT | apply wP | apply wS | apply wB); exact rfl)
    rw [condB_decide, if_pos (by omega)]
    refine opt_in (idx_ro tab39 h1 rfl) ?_
    repeat ((with_reducible first | apply opt_in | apply wI | apply wT | apply wP | apply wS | apply wB); exact rfl)
    refine rValid_spec L (Nat.le_trans ok.rows (by decide)) (fun x hx => Nat.le_trans (ok.text x hx) (by decide)) (Nat.le_trans ok.head (by decide)) ?_
    refine isI_in ?_
    rw [condB_ibne]
    cases hv : validF h with
    | false =>
      rw [if_neg (by decide)]
      refine fin_keep (Nat.zero_le _) ?_
      rw [hb (by rw [List.all_cons, hv, Bool.false_and])]
    | true =>
      rw [if_pos rfl, if_pos rfl, wrap_next hk (by omega)]
      exact rv_loop L S xs hx v r (k + 1) h2 (fun x hx => ht x (List.mem_cons_of_mem _ hx)) (fun e => hb (by rw [List.all_cons, hv, Bool.true_and, e])) (fun e => hn (by rw [List.all_cons, hv, Bool.true_and, e]))
theorem ro_loop (L : Laid w0.w) (S : Store) (xs : List PV) (hx : xs.length ≤ 1048576) (v : AV) : ∀ (r : List Hnk) (g : Hnk) (k : Nat), xs.drop k = (g :: r).map hnkP → (inOrd (g :: r) = false → v = .pv (.int .i64 112)) → (inOrd (g :: r) = true → v = .pv (.int .i64 0)) →
    selvageref11_Faults.n35 (selvageref11_Faults.X w0 0) w0 0 (fun r' _ => r' = v) S (.pv (.sl xs)) ((k + 1 : Nat) : Int)
  | [], g, k, hd, _, hn => by
    obtain ⟨h1, h2, hk⟩ := drop_facts hd
    have hk2 := drop_end h2
    refine selvageref11_Faults.n35_in ?_
    rw [selvageref11_Faults.b36_eq]
    repeat ((with_reducible first | apply opt_in | apply wI | apply wT | apply wP | apply wS | apply wB); exact rfl)
    rw [condB_decide, if_neg (by omega)]
    refine selvageref11_Faults.n52_in ?_
    rw [selvageref11_Faults.b52_eq]
    exact fin_keep (Nat.zero_le _) (hn rfl).symm
  | h :: r, g, k, hd, hb, hn => by
    obtain ⟨h1, h2, hk⟩ := drop_facts hd
    obtain ⟨h3, h4, hk2⟩ := drop_facts h2
    have e : IntKind.wrap .i64 (((k + 1 : Nat) : Int) - 1) = (k : Int) := by rw [wrap_i64 (by omega) (by omega)]; omega
    refine selvageref11_Faults.n35_in ?_
    rw [selvageref11_Faults.b36_eq]
    repeat ((with_reducible first | apply opt_in | apply wI | apply wT | apply wP | apply wS | apply wB); exact rfl)
    rw [condB_decide, if_pos (by omega), e]
    refine opt_in (idx_ro tab39 h1 rfl) ?_
    repeat ((with_reducible first | apply opt_in | apply wI | apply wT | apply wP | apply wS | apply wB); exact rfl)
    refine opt_in (idx_ro tab39 h3 rfl) ?_
    repeat ((with_reducible first | apply opt_in | apply wI | apply wT | apply wP | apply wS | apply wB); exact rfl)
    refine InOrder_spec L (g := g) (h := h) (isB_in ?_)
    rw [condB_not]
    refine condB_split (fun gg => ?_) (fun gg => ?_)
    · rw [wrap_next hk2 (by omega)]
      exact ro_loop L S xs hx v r h (k + 1) h2 (fun e => hb (by rw [inOrd, gg, e]; rfl)) (fun e => hn (by rw [inOrd, gg, e]; rfl))
    · refine fin_keep (Nat.zero_le _) ?_
      rw [hb (by rw [inOrd, gg]; rfl)]
theorem Faults_spec (L : Laid w0.w) {p s p' s' : List UInt8} {l : List Hnk} (o : PrOK p s p' s' l) (hR : R (.pv (.int .i64 (faultN p s p' s' l))) σ) : SCalls (cx w0) selvageref11_Faults.id [.pv (nmP p s), .pv (nmP p' s'), hnksA l] σ R := by
  refine SCalls.alone L rfl (fun w1 L1 => ?_) rfl hR
  have hx : (l.map hnkP).length ≤ 1048576 := by rw [List.length_map]; exact o.len
  have fin : ∀ t, t = !(nameOKB p s && nameOKB p' s') → selvageref11_Faults.n5 (selvageref11_Faults.X w1 0) w1 0 (fun r' _ => r' = .pv (.int .i64 (faultN p s p' s' l))) (nmS p s p' s') (hnksA l) t := by
    rintro t rfl
    refine selvageref11_Faults.n5_in ?_
    rw [selvageref11_Faults.b5_eq, condB_not]
    refine condB_split (fun g => ?_) (fun g => ?_)
    · rw [Bool.and_eq_true] at g
      refine rv_loop L1 _ (l.map hnkP) hx _ l 0 rfl o.ok (fun e => ?_) (fun e => ?_)
      · have : faultN p s p' s' l = 100 := by simp [faultN, g.1, g.2, e]
        rw [this]
      refine selvageref11_Faults.n31_in ?_
      rw [selvageref11_Faults.b31_eq]
      match l, e with
      | [], e =>
        refine selvageref11_Faults.n35_in ?_
        rw [selvageref11_Faults.b36_eq]
        repeat ((with_reducible first | apply opt_in | apply wI | apply wT | apply wP | apply wS | apply wB); exact rfl)
        rw [condB_decide, if_neg (by decide)]
        refine selvageref11_Faults.n52_in ?_
        rw [selvageref11_Faults.b52_eq]
        refine fin_keep (Nat.zero_le _) ?_
        have : faultN p s p' s' [] = 0 := by simp [faultN, g.1, g.2, inOrd]
        rw [this]
      | g0 :: r, e =>
        have := ro_loop L1 (nmS p s p' s') ((g0 :: r).map hnkP) hx (.pv (.int .i64 (faultN p s p' s' (g0 :: r)))) r g0 0 rfl (fun e2 => by
          have : faultN p s p' s' (g0 :: r) = 112 := by simp [faultN, g.1, g.2, e2]; simpa using e
          rw [this]) (fun e2 => by
          have : faultN p s p' s' (g0 :: r) = 0 := by simp [faultN, g.1, g.2, e2]; simpa using e
          rw [this])
        exact this
    · refine fin_keep (Nat.zero_le _) ?_
      have : faultN p s p' s' l = 110 := by simp [faultN, g]
      rw [this]
  refine selvageref11_Faults.calls ?_
  rw [selvageref11_Faults.b0_eq]
  refine ⟨rfl, rfl, ?_⟩
  repeat ((with_reducible first | apply opt_in | apply wI | apply wT | apply wP | apply wS | apply wB); exact rfl)
  refine NameOK_spec L1 o.p o.s (isB_in ?_)
  rw [condB_not]
  refine condB_split (fun g => ?_) (fun g => fin _ ?_)
  · repeat ((with_reducible first | apply opt_in | apply wI | apply wT | apply wP | apply wS | apply wB); exact rfl)
    refine NameOK_spec L1 o.p' o.s' (isB_in (fin _ ?_))
    rw [g]; rfl
  · rw [g]; rfl
theorem vErr_errA (b : Bool) : vErr b = errA (if b = true then 0 else 100) := by cases b <;> rfl
open Go.Proofs.YtebgkjjbbnbnlaaGreatDoor in
theorem name_data {d : Nat} {q : PV} (h : hasT tabS (d + 2) 23 q) : ∃ p s, q = nmP p s := by
  obtain ⟨qs, rfl, g⟩ := hasT_struct tab23 ti23_td h
  obtain ⟨_, qs, rfl, h1, h⟩ := fields_cons g
  obtain ⟨_, qs, rfl, h2, h⟩ := fields_cons h
  obtain rfl := fields_nil h
  obtain ⟨p, rfl, _⟩ := hasT_str tab9 ti9_td h1
  obtain ⟨s, rfl, _⟩ := hasT_str tab9 ti9_td h2
  exact ⟨p, s, rfl⟩
end
end Go.Sv
