/- What the code of reading answers: a hunk's rows. -/
import Derived.Test.YtjonnhjaiiingaaGreatDoorUnV
import Derived.Test.YtjonnhjaiiingaaGreatDoorSvC
set_option linter.unusedVariables false
set_option linter.unusedSimpArgs false
set_option maxRecDepth 100000
namespace Go.Sv
open Go Go.RowKit Go.Proofs
section
variable {w0 : Base} {R : AV → Store → Prop}
abbrev fO (e : Int) (at_ : Nat) : SObj := .cells 78 [.pv (.int .i64 e), .pv (.int .i64 (at_ : Int))]
abbrev rO (r : Row) : SObj := .cells 65 [.pv (.int .i64 r.k), .pv (.str r.t)]
abbrev rwS (ls : List Ln) (at_ : Nat) (p s p' s' : Ln) (hs : List Hnk) (h : Hnk) (acc : List Row) : Store :=
  [zN, zN, rdr ls at_, zN, zN, zN, nmO p s, nmO p' s', .arr 6 (hs.map hnkP) false, .cells 37 (hC0 zeroH), .cells 37 [.pv (.int .i64 h.a), .pv (.int .i64 h.n), .pv (.int .i64 h.b), .pv (.int .i64 h.m), .pv (.str h.head), .arr 11 acc.length 0 acc.length], .arr 2 (acc.map rowP) false]
variable {ls : List Ln} {p s p' s' : Ln} {hs : List Hnk} {h : Hnk} {at_ : Nat} {acc : List Row} {n m : Int}
theorem rows91 (hat : at_ ≤ 8388608) (hac : acc.length ≤ 8388608) {w : Row} (t : Bool) (ht : t = decide (h.n < n ∨ h.m < m))
    (bad : h.n < n ∨ h.m < m → R (.ptr 12 0) (rwS ls at_ p s p' s' hs h acc ++ [fO 111 at_, rO w]))
    (next : ¬ (h.n < n ∨ h.m < m) → unified_reader_rows.n7 (unified_reader_rows.X w0 11) w0 11 R (rwS ls (at_ + 1) p s p' s' hs h (acc ++ [w])) (.ptr 2 0) (.ptr 10 0) n m true) :
    unified_reader_rows.n91 (unified_reader_rows.X w0 11) w0 11 R (rwS ls at_ p s p' s' hs h acc ++ [fO 111 at_, rO w]) (.ptr 2 0) (.ptr 10 0) n m (.ptr 12 0) (.ptr 13 0) t := by
  subst ht
  have wi : IntKind.wrap .i64 ((at_ : Int) + 1) = ((at_ + 1 : Nat) : Int) := by rw [wrap_i64 (by omega) (by omega)]; omega
  refine unified_reader_rows.n91_in ?_
  rw [unified_reader_rows.b91_eq, condB_decide]
  refine ite_split (fun g => fin_keep (Nat.le_of_ble_eq_true rfl) (bad g)) (fun g => ?_)
  repeat ((with_reducible first | apply opt_in | apply wI | apply wT | apply wP | apply wS | apply wB); exact rfl)
  refine opt2_in (v := .pv (.sl [rowP w])) rfl ⟨rfl, ?_⟩
  refine opt2_in (append_pv (id := 11) (es := 2) (ver := acc.length) (xs := acc.map rowP) (ys := [rowP w]) rfl rfl (List.length_map _).symm rfl rfl ⟨by rw [List.length_map]; show acc.length + 1 ≤ _; omega, by rw [List.length_map]; show (acc.length + 1) * 24 ≤ _; omega⟩) ?_
  repeat ((with_reducible first | apply opt_in | apply wI | apply wT | apply wP | apply wS | apply wB); exact rfl)
  have e : acc.map rowP ++ [rowP w] = (acc ++ [w]).map rowP := by simp
  have e2 : (acc.map rowP).length + [rowP w].length = (acc ++ [w]).length := by simp
  rw [wi, e, e2]
  exact unified_reader_rows.n7_weak (EWeak.drop (τ := rwS ls (at_ + 1) p s p' s' hs h (acc ++ [w])) glob0 (Nat.le_of_ble_eq_true rfl) rfl rfl) (next g)
theorem rows76 (hn : 0 ≤ n) (hn' : n ≤ 8388608) (hm : 0 ≤ m) (hm' : m ≤ 8388608) {w : Row}
    (key : ∀ t, t = decide (h.n < incO w.k n ∨ h.m < incN w.k m) → unified_reader_rows.n91 (unified_reader_rows.X w0 11) w0 11 R (rwS ls at_ p s p' s' hs h acc ++ [fO 111 at_, rO w]) (.ptr 2 0) (.ptr 10 0) (incO w.k n) (incN w.k m) (.ptr 12 0) (.ptr 13 0) t) :
    unified_reader_rows.n76 (unified_reader_rows.X w0 11) w0 11 R (rwS ls at_ p s p' s' hs h acc ++ [fO 111 at_, rO w]) (.ptr 2 0) (.ptr 10 0) n m (.ptr 12 0) (.ptr 13 0) := by
  have wn : IntKind.wrap .i64 (n + 1) = n + 1 := wrap_i64 (by omega) (by omega)
  have wm : IntKind.wrap .i64 (m + 1) = m + 1 := wrap_i64 (by omega) (by omega)
  have key88 : ∀ n' m', n' = incO w.k n → m' = incN w.k m → unified_reader_rows.n88 (unified_reader_rows.X w0 11) w0 11 R (rwS ls at_ p s p' s' hs h acc ++ [fO 111 at_, rO w]) (.ptr 2 0) (.ptr 10 0) n' m' (.ptr 12 0) (.ptr 13 0) := by
    rintro n' m' rfl rfl
    refine unified_reader_rows.n88_in ?_
    rw [unified_reader_rows.b88_eq]
    repeat ((with_reducible first | apply opt_in | apply wI | apply wT | apply wP | apply wS | apply wB); exact rfl)
    rw [condB_decide]
    refine ite_split (fun g => key _ ?_) (fun g => ?_)
    · exact (decide_eq_true (.inl g)).symm
    · repeat ((with_reducible first | apply opt_in | apply wI | apply wT | apply wP | apply wS | apply wB); exact rfl)
      refine key _ ?_
      rw [decide_eq_decide]
      exact ⟨.inr, fun e => e.resolve_left g⟩
  have key82 : ∀ n', n' = incO w.k n → unified_reader_rows.n82 (unified_reader_rows.X w0 11) w0 11 R (rwS ls at_ p s p' s' hs h acc ++ [fO 111 at_, rO w]) (.ptr 2 0) (.ptr 10 0) n' m (.ptr 12 0) (.ptr 13 0) := by
    rintro n' rfl
    refine unified_reader_rows.n82_in ?_
    rw [unified_reader_rows.b82_eq]
    repeat ((with_reducible first | apply opt_in | apply wI | apply wT | apply wP | apply wS | apply wB); exact rfl)
    rw [condB_ibne]
    refine ite_split (fun g => key88 _ _ rfl ?_) (fun g => key88 _ _ rfl ?_)
    · rw [incN, if_pos g]
    · rw [incN, if_neg g, wm]
  refine unified_reader_rows.n76_in ?_
  rw [unified_reader_rows.b76_eq]
  repeat ((with_reducible first | apply opt_in | apply wI | apply wT | apply wP | apply wS | apply wB); exact rfl)
  rw [condB_ibne]
  refine ite_split (fun g => key82 _ ?_) (fun g => key82 _ ?_)
  · rw [incO, if_pos g]
  · rw [incO, if_neg g, wn]
theorem rows36 {c : UInt8} {t0 : Ln} (hk : at_ < ls.length) (idx : ∀ σ, aIndexAddr σ tabS ti46.td (.pv (lnsP ls)) (at_ : Int) = some (.ro (.str (c :: t0)) 0)) (t : Bool) (ht : t = decide (n = h.n ∧ m = h.m))
    (hok : n = h.n ∧ m = h.m → R (.pv (.raw (.pointer none))) (rwS ls at_ p s p' s' hs h acc ++ [fO 111 at_]))
    (hbad : ¬ (n = h.n ∧ m = h.m) → rowOf (c :: t0) = none → R (.ptr 12 0) (rwS ls at_ p s p' s' hs h acc ++ [fO 111 at_, rO ⟨0, t0⟩]))
    (key : ¬ (n = h.n ∧ m = h.m) → ∀ w : Row, rowOf (c :: t0) = some w → unified_reader_rows.n76 (unified_reader_rows.X w0 11) w0 11 R (rwS ls at_ p s p' s' hs h acc ++ [fO 111 at_, rO w]) (.ptr 2 0) (.ptr 10 0) n m (.ptr 12 0) (.ptr 13 0)) :
    unified_reader_rows.n36 (unified_reader_rows.X w0 11) w0 11 R (rwS ls at_ p s p' s' hs h acc ++ [fO 111 at_]) (.ptr 2 0) (.ptr 10 0) n m (.ptr 12 0) t := by
  subst ht
  refine unified_reader_rows.n36_in ?_
  rw [unified_reader_rows.b36_eq, condB_decide]
  refine ite_split (fun g => fin_keep (Nat.le_of_ble_eq_true rfl) (hok g)) (fun g => ?_)
  repeat ((with_reducible first | apply opt_in | apply wI | apply wT | apply wP | apply wS | apply wB); exact rfl)
  rw [condB_decide, if_neg (by rw [List.length_map]; omega)]
  repeat ((with_reducible first | apply opt_in | apply wI | apply wT | apply wP | apply wS | apply wB); exact rfl)
  refine opt_in (idx _) ?_
  repeat ((with_reducible first | apply opt_in | apply wI | apply wT | apply wP | apply wS | apply wB); exact rfl)
  refine opt_in (slice_drop (k := 1) (by simp)) (isS_in ?_)
  refine opt_in (v := .pv (.agg [.int .i64 0, .str t0])) rfl ?_
  refine opt_in (v := rwS ls at_ p s p' s' hs h acc ++ [fO 111 at_, rO ⟨0, t0⟩]) rfl ?_
  have hlen : List.length (rwS ls at_ p s p' s' hs h acc ++ [fO 111 at_]) = 13 := rfl
  rw [hlen]
  refine opt_in (idx_str (c := c) rfl) (isI_in ?_)
  have ne : ∀ k : UInt8, ¬ ((c.toNat : Int) = (k.toNat : Int)) → c ≠ k := fun k h e => h (by rw [e])
  have eq : ∀ k : UInt8, (c.toNat : Int) = (k.toNat : Int) → c = k := fun k h => UInt8.toNat_inj.1 (by omega)
  rw [condB_ibeq]
  refine ite_split (fun g1 => ?_) (fun g1 => ?_)
  · generalize hq : (1 : Int) = q
    refine opt_in (v := .ptr 13 0) rfl ?_
    refine opt_in (v := rwS ls at_ p s p' s' hs h acc ++ [fO 111 at_, rO ⟨q, t0⟩]) rfl ?_
    exact key g ⟨q, t0⟩ (by rw [rowOf, if_pos (eq 32 g1), hq])
  rw [condB_ibeq]
  refine ite_split (fun g2 => ?_) (fun g2 => ?_)
  · generalize hq : (1 : Int) = q
    refine opt_in (v := .pv (.agg [.int .i64 q, .str [10]])) rfl ?_
    refine opt_in (v := rwS ls at_ p s p' s' hs h acc ++ [fO 111 at_, rO ⟨q, [10]⟩]) rfl ?_
    exact key g ⟨q, [10]⟩ (by rw [rowOf, if_neg (ne 32 g1), if_pos (eq 10 g2), hq])
  rw [condB_ibeq]
  refine ite_split (fun g3 => ?_) (fun g3 => ?_)
  · generalize hq : (2 : Int) = q
    refine opt_in (v := .ptr 13 0) rfl ?_
    refine opt_in (v := rwS ls at_ p s p' s' hs h acc ++ [fO 111 at_, rO ⟨q, t0⟩]) rfl ?_
    exact key g ⟨q, t0⟩ (by rw [rowOf, if_neg (ne 32 g1), if_neg (ne 10 g2), if_pos (eq 45 g3), hq])
  rw [condB_ibeq]
  refine ite_split (fun g4 => ?_) (fun g4 => ?_)
  · generalize hq : (3 : Int) = q
    refine opt_in (v := .ptr 13 0) rfl ?_
    refine opt_in (v := rwS ls at_ p s p' s' hs h acc ++ [fO 111 at_, rO ⟨q, t0⟩]) rfl ?_
    exact key g ⟨q, t0⟩ (by rw [rowOf, if_neg (ne 32 g1), if_neg (ne 10 g2), if_neg (ne 45 g3), if_pos (eq 43 g4), hq])
  · refine fin_keep (Nat.le_of_ble_eq_true rfl) (hbad g ?_)
    rw [rowOf, if_neg (ne 32 g1), if_neg (ne 10 g2), if_neg (ne 45 g3), if_neg (ne 43 g4)]
theorem rows_loop (hl : ls.length ≤ 8388608) (hx : ∀ l ∈ ls, l ≠ [] ∧ l.length ≤ 8388608) (hN : 0 ≤ h.n ∧ h.n ≤ 2147483648) (hM : 0 ≤ h.m ∧ h.m ≤ 2147483648) : ∀ (r : List Ln) (at_ : Nat) (n m : Int) (fr : Bool) (acc : List Row),
    ls.drop at_ = r → at_ ≤ ls.length → 0 ≤ n → n ≤ at_ → 0 ≤ m → m ≤ at_ → (fr = true → acc ≠ []) → acc.length ≤ at_ → (∀ x ∈ acc, x.t.length ≤ 8388608) →
    (rowsL h.n h.m r n m fr acc = none → (∀ acc at_, R (.ptr 12 0) (rwS ls at_ p s p' s' hs h acc ++ [fO 111 at_])) ∧ ∀ acc at_ w, R (.ptr 12 0) (rwS ls at_ p s p' s' hs h acc ++ [fO 111 at_, rO w])) →
    (∀ rows r', rowsL h.n h.m r n m fr acc = some (rows, r') → ∀ at', ls.drop at' = r' → at' ≤ ls.length → R (.pv (.raw (.pointer none))) (rwS ls at' p s p' s' hs h rows ++ [fO 111 at'])) →
    unified_reader_rows.n7 (unified_reader_rows.X w0 11) w0 11 R (rwS ls at_ p s p' s' hs h acc) (.ptr 2 0) (.ptr 10 0) n m fr := by
  intro r
  induction r with
  | nil =>
    intro at_ n m fr acc hd hat n0 n1 m0 m1 hfr hac htx hbad hgood
    have hk := drop_end hd
    have key36 : ∀ t, t = decide (n = h.n ∧ m = h.m) → unified_reader_rows.n36 (unified_reader_rows.X w0 11) w0 11 R (rwS ls at_ p s p' s' hs h acc ++ [fO 111 at_]) (.ptr 2 0) (.ptr 10 0) n m (.ptr 12 0) t := by
      rintro t rfl
      refine unified_reader_rows.n36_in ?_
      rw [unified_reader_rows.b36_eq, condB_decide]
      refine ite_split (fun g => ?_) (fun g => ?_)
      · refine fin_keep (Nat.le_of_ble_eq_true rfl) (hgood acc [] ?_ at_ hd hat)
        rw [rowsL, if_pos g]
      · repeat ((with_reducible first | apply opt_in | apply wI | apply wT | apply wP | apply wS | apply wB); exact rfl)
        rw [condB_decide, if_pos (by rw [List.length_map]; omega)]
        refine fin_keep (Nat.le_of_ble_eq_true rfl) ((hbad ?_).1 acc at_)
        rw [rowsL, if_neg g]
    have key14 : ∀ t, t = false → unified_reader_rows.n14 (unified_reader_rows.X w0 11) w0 11 R (rwS ls at_ p s p' s' hs h acc ++ [fO 111 at_]) (.ptr 2 0) (.ptr 10 0) n m fr (.ptr 12 0) t := by
      rintro t rfl
      refine unified_reader_rows.n14_in ?_
      rw [unified_reader_rows.b14_eq, condB_false']
      repeat ((with_reducible first | apply opt_in | apply wI | apply wT | apply wP | apply wS | apply wB); exact rfl)
      rw [condB_ibeq]
      refine ite_split (fun g => ?_) (fun g => key36 _ ?_)
      · repeat ((with_reducible first | apply opt_in | apply wI | apply wT | apply wP | apply wS | apply wB); exact rfl)
        refine key36 _ ?_
        rw [Bool.eq_iff_iff, beq_iff_eq, decide_eq_true_eq]
        exact ⟨fun e => ⟨g, e⟩, fun e => e.2⟩
      · rw [decide_eq_false (fun e => g e.1)]
    refine unified_reader_rows.n7_in ?_
    rw [unified_reader_rows.b8_eq]
    repeat ((with_reducible first | apply opt_in | apply wI | apply wT | apply wP | apply wS | apply wB); exact rfl)
    refine ⟨rfl, ?_⟩
    repeat ((with_reducible first | apply opt_in | apply wI | apply wT | apply wP | apply wS | apply wB); exact rfl)
    rw [condB_decide, if_neg (by rw [List.length_map]; omega)]
    exact key14 _ rfl
  | cons l r ih =>
    intro at_ n m fr acc hd hat n0 n1 m0 m1 hfr hac htx hbad hgood
    obtain ⟨h1, h2, hk⟩ := drop_facts hd
    have hlx := hx l (List.mem_of_getElem? h1)
    have wi : IntKind.wrap .i64 ((at_ : Int) + 1) = ((at_ + 1 : Nat) : Int) := by rw [wrap_i64 (by omega) (by omega)]; omega
    have wn : IntKind.wrap .i64 (n + 1) = n + 1 := wrap_i64 (by omega) (by omega)
    have wm : IntKind.wrap .i64 (m + 1) = m + 1 := wrap_i64 (by omega) (by omega)
    obtain ⟨c, t0, rfl⟩ : ∃ c t0, l = c :: t0 := by
      cases l with
      | nil => exact absurd rfl hlx.1
      | cons c t0 => exact ⟨c, t0, rfl⟩
    have idx : ∀ σ, aIndexAddr σ tabS ti46.td (.pv (lnsP ls)) (at_ : Int) = some (.ro (.str (c :: t0)) 0) := fun σ => idx_ro tab9 (ln_get h1) rfl
    have hac' : acc.length ≤ 8388608 := by omega
    have key36 : (c :: t0).head? ≠ some 92 → ∀ t, t = decide (n = h.n ∧ m = h.m) → unified_reader_rows.n36 (unified_reader_rows.X w0 11) w0 11 R (rwS ls at_ p s p' s' hs h acc ++ [fO 111 at_]) (.ptr 2 0) (.ptr 10 0) n m (.ptr 12 0) t := by
      intro h92 t ht
      refine rows36 hk idx t ht (fun g => hgood acc _ (by rw [rowsL, if_neg h92, if_pos g]) at_ hd hat) (fun g hw => (hbad (by rw [rowsL, if_neg h92, if_neg g, hw])).2 acc at_ _) (fun g w hw => ?_)
      have i1 : incO w.k n ≤ n + 1 ∧ n ≤ incO w.k n := by unfold incO; split <;> omega
      have i2 : incN w.k m ≤ m + 1 ∧ m ≤ incN w.k m := by unfold incN; split <;> omega
      refine rows76 n0 (by omega) m0 (by omega) (fun t ht => rows91 (by omega) hac' t ht (fun g1 => (hbad ?_).2 acc at_ w) (fun g1 => ?_))
      · rw [rowsL, if_neg h92, if_neg g, hw]
        simp only
        rw [if_pos g1]
      · have eq : rowsL h.n h.m ((c :: t0) :: r) n m fr acc = rowsL h.n h.m r (incO w.k n) (incN w.k m) true (acc ++ [w]) := by
          rw [rowsL, if_neg h92, if_neg g, hw]
          simp only
          rw [if_neg g1]
        refine ih (at_ + 1) (incO w.k n) (incN w.k m) true (acc ++ [w]) h2 (by omega) (by omega) (by omega) (by omega) (by omega) (fun _ => by simp) (by rw [List.length_append, List.length_singleton]; omega) (fun x hx => by
          rcases List.mem_append.1 hx with hx | hx
          · exact htx x hx
          · rw [List.mem_singleton] at hx; subst hx
            exact Nat.le_trans (rowOf_le hw) hlx.2) (fun e => hbad (by rw [eq]; exact e)) (fun rows r' e => hgood rows r' (by rw [eq]; exact e))
    have key14 : ∀ t, t = decide (c = 92) → unified_reader_rows.n14 (unified_reader_rows.X w0 11) w0 11 R (rwS ls at_ p s p' s' hs h acc ++ [fO 111 at_]) (.ptr 2 0) (.ptr 10 0) n m fr (.ptr 12 0) t := by
      rintro t rfl
      refine unified_reader_rows.n14_in ?_
      rw [unified_reader_rows.b14_eq, condB_decide]
      refine ite_split (fun g92 => ?_) (fun g92 => ?_)
      · have h92 : (c :: t0).head? = some 92 := by rw [g92]; rfl
        rw [condB_not]
        refine condB_split (fun gf => ?_) (fun gf => ?_)
        · subst gf
          obtain ⟨q, w, rfl⟩ : ∃ q w, acc = q ++ [w] := by
            rcases List.eq_nil_or_concat acc with e | ⟨q, w, e⟩
            · exact absurd e (hfr rfl)
            · exact ⟨q, w, by rw [e, List.concat_eq_append]⟩
          have hql : (q ++ [w]).length = q.length + 1 := by simp
          have hget : ((q ++ [w]).map rowP)[q.length]? = some (.agg [.int .i64 w.k, .str w.t]) := by simp
          have hw8 : w.t.length ≤ 8388608 := htx w (by simp)
          have hwt : w.t.length ≤ 140737488355328 := by omega
          repeat ((with_reducible first | apply opt_in | apply wI | apply wT | apply wP | apply wS | apply wB); exact rfl)
          have wl : IntKind.wrap .i64 ((((q ++ [w]).length : Nat) : Int) - 1) = (q.length : Int) := by rw [hql, wrap_i64 (by omega) (by omega)]; omega
          rw [wl]
          refine opt_in (idx_arr (id := 11) (xs := (q ++ [w]).map rowP) tab65 rfl (by omega) rfl (List.length_map _)) ?_
          rw [Nat.zero_add]
          repeat ((with_reducible first | apply opt_in | apply wI | apply wT | apply wP | apply wS | apply wB); exact rfl)
          refine opt_in (load_eptr (id := 11) (xs := (q ++ [w]).map rowP) rfl (List.length_map _) hget rfl rfl) (isS_in ?_)
          refine bare_spec hwt (isS_in ?_)
          repeat ((with_reducible first | apply opt_in | apply wI | apply wT | apply wP | apply wS | apply wB); exact rfl)
          refine opt_in (store_eptr (id := 11) (xs := (q ++ [w]).map rowP) rfl (List.length_map _) hget rfl rfl rfl (by simp)) ?_
          have e : ((q ++ [w]).map rowP).set q.length (.agg (splice [.int .i64 w.k, .str w.t] (0 + 1) [.str (bareB w.t)])) = (q ++ [(⟨w.k, bareB w.t⟩ : Row)]).map rowP := by
            rw [List.map_append, List.set_append_right _ _ (by simp)]
            simp [splice]
          have e3 : (q ++ [w]).length = (q ++ [(⟨w.k, bareB w.t⟩ : Row)]).length := by simp
          rw [e]
          refine opt_in rfl (opt_in rfl (opt_in (v := .pv (.int .i64 (at_ : Int))) rfl (isI_in ?_)))
          rw [wi]
          refine opt_in rfl (opt_in rfl ?_)
          generalize hfv : false = fv
          refine opt_in (v := [zN, zN, rdr ls (at_ + 1), zN, zN, zN, nmO p s, nmO p' s', .arr 6 (hs.map hnkP) false, .cells 37 (hC0 zeroH), .cells 37 [.pv (.int .i64 h.a), .pv (.int .i64 h.n), .pv (.int .i64 h.b), .pv (.int .i64 h.m), .pv (.str h.head), .arr 11 (q ++ [w]).length 0 (q ++ [w]).length], .arr 2 ((q ++ [(⟨w.k, bareB w.t⟩ : Row)]).map rowP) fv, fO 111 at_]) rfl ?_
          rw [e3]
          subst hfv
          have eb : bareLast (q ++ [w]) = q ++ [⟨w.k, bareB w.t⟩] := by
            unfold bareLast
            rw [List.getLast?_append]; simp
          have eq : rowsL h.n h.m ((c :: t0) :: r) n m true (q ++ [w]) = rowsL h.n h.m r n m false (q ++ [⟨w.k, bareB w.t⟩]) := by
            rw [rowsL, if_pos h92, if_pos rfl, eb]
          have ih' := ih (at_ + 1) n m false (q ++ [⟨w.k, bareB w.t⟩]) h2 (by omega) n0 (by omega) m0 (by omega) (fun e => by cases e) (by rw [List.length_append, List.length_singleton] at hac ⊢; omega) (fun x hx => by
            rcases List.mem_append.1 hx with hx | hx
            · exact htx x (by simp [hx])
            · rw [List.mem_singleton] at hx; subst hx
              exact Nat.le_trans (bareB_le w.t) hw8) (fun e => hbad (by rw [eq]; exact e)) (fun rows r' e => hgood rows r' (by rw [eq]; exact e))
          exact unified_reader_rows.n7_weak (EWeak.drop (τ := rwS ls (at_ + 1) p s p' s' hs h (q ++ [⟨w.k, bareB w.t⟩])) glob0 (Nat.le_of_ble_eq_true rfl) rfl rfl) ih'
        · refine fin_keep (Nat.le_of_ble_eq_true rfl) ((hbad ?_).1 acc at_)
          rw [rowsL, if_pos h92, if_neg (by rw [gf]; decide)]
      · have h92 : (c :: t0).head? ≠ some 92 := by simpa using g92
        repeat ((with_reducible first | apply opt_in | apply wI | apply wT | apply wP | apply wS | apply wB); exact rfl)
        rw [condB_ibeq]
        refine ite_split (fun g => ?_) (fun g => key36 h92 _ ?_)
        · repeat ((with_reducible first | apply opt_in | apply wI | apply wT | apply wP | apply wS | apply wB); exact rfl)
          refine key36 h92 _ ?_
          rw [Bool.eq_iff_iff, beq_iff_eq, decide_eq_true_eq]
          exact ⟨fun e => ⟨g, e⟩, fun e => e.2⟩
        · rw [decide_eq_false (fun e => g e.1)]
    refine unified_reader_rows.n7_in ?_
    rw [unified_reader_rows.b8_eq]
    repeat ((with_reducible first | apply opt_in | apply wI | apply wT | apply wP | apply wS | apply wB); exact rfl)
    refine ⟨rfl, ?_⟩
    repeat ((with_reducible first | apply opt_in | apply wI | apply wT | apply wP | apply wS | apply wB); exact rfl)
    rw [condB_decide, if_pos (by rw [List.length_map]; omega)]
    repeat ((with_reducible first | apply opt_in | apply wI | apply wT | apply wP | apply wS | apply wB); exact rfl)
    refine opt_in (idx _) ?_
    repeat ((with_reducible first | apply opt_in | apply wI | apply wT | apply wP | apply wS | apply wB); exact rfl)
    refine opt_in (idx_str (c := c) rfl) (isI_in (key14 _ ?_))
    rw [Bool.eq_iff_iff, beq_iff_eq, decide_eq_true_eq]
    exact ⟨fun e => UInt8.toNat_inj.1 (by have : UInt8.toNat 92 = 92 := rfl; omega), fun e => by rw [e]; rfl⟩
end
end Go.Sv
