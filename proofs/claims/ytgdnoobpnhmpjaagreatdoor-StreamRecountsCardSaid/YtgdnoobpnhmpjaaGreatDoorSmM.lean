/- A patch's lines with their counts put right: headers and rows, the document's side. -/
import Derived.Test.YtgdnoobpnhmpjaaGreatDoorSmL
set_option linter.unusedVariables false
set_option linter.unusedSimpArgs false
set_option maxRecDepth 100000
namespace Go.Sv
open Go Go.RowKit Go.Proofs
def stF (L : List Ln) (k : Nat) (w : Ln) : Bool := match L[k]? with
  | some s => Lib.hasPrefix s w
  | none => false
theorem headF_st (L : List Ln) (k : Nat) : headF (L.drop k) = (stF L k oldM && stF L (k + 1) newM) := by
  have h0 : (L.drop k)[0]? = L[k]? := by rw [List.getElem?_drop]; rfl
  have h1 : (L.drop k)[1]? = L[k + 1]? := List.getElem?_drop
  unfold stF
  rw [← h0, ← h1]
  match L.drop k with
  | [] => rfl
  | [x] => show false = (_ && false); rw [Bool.and_false]
  | x :: y :: r => rfl
theorem pre_take {s w : Ln} (h : w.length ≤ s.length) : Lib.hasPrefix s w = (s.take w.length == w) := by
  rw [Bool.eq_iff_iff, beq_iff_eq]
  unfold Lib.hasPrefix
  rw [List.isPrefixOf_iff_prefix, List.prefix_iff_eq_take]
  exact ⟨fun h => h.symm, fun h => h.symm⟩
theorem pre_len {s w : Ln} (h : Lib.hasPrefix s w = true) : w.length ≤ s.length := by
  unfold Lib.hasPrefix at h
  rw [List.isPrefixOf_iff_prefix] at h
  exact h.length_le
def behA (s w : Ln) : AV := match behF s w with
  | some t => .tup [.pv (.str t), .pv (.bool true)]
  | none => .tup [.pv (.str []), .pv (.bool false)]
section
variable {w0 : Base} {σ : Store} {R : AV → Store → Prop}
theorem Behind_spec {s w : Ln} (hR : R (behA s w) σ) : SCalls (cx w0) selvageref11_Behind.id [.pv (.str s), .pv (.str w)] σ R := by
  have h5 : ∀ q : Bool, (q = false ↔ Lib.hasPrefix s w = true) → selvageref11_Behind.n5 (selvageref11_Behind.X w0 σ.length) w0 σ.length R σ s w q := by
    intro q hq
    refine selvageref11_Behind.n5_in ?_
    rw [selvageref11_Behind.b5_eq]
    refine condB_split (fun g => ?_) (fun g => ?_)
    · unfold behA behF at hR
      rw [if_neg (fun h => by rw [hq.2 h] at g; cases g)] at hR
      exact fin_same hR
    · have hp := hq.1 g
      unfold behA behF at hR
      rw [if_pos hp] at hR
      refine opt_in (slice_drop (pre_len hp)) (isS_in (fin_same hR))
  refine selvageref11_Behind.calls ?_
  rw [selvageref11_Behind.b0_eq, condB_decide]
  refine ite_split (fun g => ?_) (fun g => ?_)
  · exact h5 true ⟨nofun, fun h => absurd (pre_len h) (by omega)⟩
  · refine opt_in (slice_take (by omega)) (isS_in (h5 _ ?_))
    rw [pre_take (by omega)]
    simp
theorem starts_spec {L : List Ln} {k : Nat} {w : Ln} (hR : R (.pv (.bool (stF L k w))) σ) : SCalls (cx w0) selvageref28_starts.id [.pv (lnsP L), .pv (.int .i64 (k : Nat)), .pv (.str w)] σ R := by
  refine selvageref28_starts.calls ?_
  rw [selvageref28_starts.b0_eq]
  repeat ((with_reducible first | apply opt_in | apply wI | apply wT | apply wP | apply wS | apply wB); exact rfl)
  rw [List.length_map, condB_decide]
  refine ite_split (fun g => ?_) (fun g => ?_)
  · refine fin_same ?_
    unfold stF at hR
    rw [List.getElem?_eq_none (by omega)] at hR
    exact hR
  · have gl : L[k]? = some (L[k]'(by omega)) := List.getElem?_eq_getElem _
    generalize L[k]'(by omega) = l at gl
    refine opt_in (idx_ro tab9 (show (L.map PV.str)[k]? = some (PV.str l) by rw [List.getElem?_map, gl]; rfl) rfl) ?_
    repeat ((with_reducible first | apply opt_in | apply wI | apply wT | apply wP | apply wS | apply wB); exact rfl)
    refine Behind_spec ?_
    unfold stF at hR
    rw [gl] at hR
    simp only at hR
    unfold behA behF
    cases hp : Lib.hasPrefix l w with
    | true =>
      rw [if_pos rfl]
      repeat ((with_reducible first | apply opt_in | apply wI | apply wT | apply wP | apply wS | apply wB); exact rfl)
      rw [hp] at hR
      exact fin_same hR
    | false =>
      rw [if_neg (by decide)]
      repeat ((with_reducible first | apply opt_in | apply wI | apply wT | apply wP | apply wS | apply wB); exact rfl)
      rw [hp] at hR
      exact fin_same hR
abbrev rr6 (w0 : Base) (R : AV → Store → Prop) (σ : Store) (L : List Ln) (k o f : Nat) : Prop := selvageref28_rows.n6 (selvageref28_rows.X w0 σ.length) w0 σ.length R σ (.pv (lnsP L)) k o f
theorem s_rrows_loop {L : List Ln} (hne : ∀ l ∈ L, l ≠ []) (hb : L.length ≤ 8388608) : ∀ (q k o f : Nat), k + q = L.length → o ≤ k → f ≤ k →
    (∀ x, x = rowsN (L.drop k) → R (.tup [.pv (.int .i64 ((o + x.2.1 : Nat) : Int)), .pv (.int .i64 ((f + x.2.2 : Nat) : Int)), .pv (.int .i64 ((k + x.1 : Nat) : Int))]) σ) → rr6 w0 R σ L k o f
  | 0, k, o, f, hk, h1, h2, hR => by
    have e : L.drop k = [] := List.drop_eq_nil_of_le (by omega)
    have hR' := hR (0, 0, 0) (by rw [e]; rfl)
    refine selvageref28_rows.n6_in ?_
    rw [selvageref28_rows.b7_eq]
    repeat ((with_reducible first | apply opt_in | apply wI | apply wT | apply wP | apply wS | apply wB); exact rfl)
    rw [List.length_map, condB_decide, if_neg (by omega)]
    refine selvageref28_rows.n41_in ?_
    rw [selvageref28_rows.b41_eq]
    exact fin_same hR'
  | q + 1, k, o, f, hk, h1, h2, hR => by
    have hlt : k < L.length := by omega
    have gl : L[k]? = some L[k] := List.getElem?_eq_getElem hlt
    have hd : L.drop k = L[k] :: L.drop (k + 1) := List.drop_eq_getElem_cons hlt
    have hst := headF_st L k
    generalize L[k] = l at gl hd
    have hnil := hne l (List.mem_of_getElem? gl)
    obtain ⟨c, r0, rfl⟩ : ∃ c r0, l = c :: r0 := by
      cases l with
      | nil => exact absurd rfl hnil
      | cons c r0 => exact ⟨c, r0, rfl⟩
    have stop : rowsN (L.drop k) = (0, 0, 0) → selvageref28_rows.n41 (selvageref28_rows.X w0 σ.length) w0 σ.length R σ k o f := fun e => by
      refine selvageref28_rows.n41_in ?_
      rw [selvageref28_rows.b41_eq]
      exact fin_same (hR (0, 0, 0) e.symm)
    have next : ∀ u v, u ≤ 1 → v ≤ 1 → rowsN (L.drop k) = stepR u v (rowsN (L.drop (k + 1))) → selvageref28_rows.n40 (selvageref28_rows.X w0 σ.length) w0 σ.length R σ (.pv (lnsP L)) k ((o + u : Nat) : Int) ((f + v : Nat) : Int) := by
      intro u v hu hv e
      refine selvageref28_rows.n40_in ?_
      rw [selvageref28_rows.b40_eq, wrap_next hlt (by omega)]
      refine s_rrows_loop hne hb q (k + 1) (o + u) (f + v) (by omega) (by omega) (by omega) fun x hx => ?_
      have := hR _ e.symm
      subst hx
      simp only [stepR] at this
      rw [show k + ((rowsN (L.drop (k + 1))).1 + 1) = k + 1 + (rowsN (L.drop (k + 1))).1 by omega, show o + ((rowsN (L.drop (k + 1))).2.1 + u) = o + u + (rowsN (L.drop (k + 1))).2.1 by omega, show f + ((rowsN (L.drop (k + 1))).2.2 + v) = f + v + (rowsN (L.drop (k + 1))).2.2 by omega] at this
      exact this
    have cn : ∀ d : UInt8, ((c.toNat : Int) = (d.toNat : Int)) ↔ c = d := fun d => ⟨fun h => UInt8.toNat_inj.1 (by omega), fun h => by rw [h]⟩
    have w1 : ∀ z : Nat, z ≤ k → IntKind.wrap .i64 ((z : Int) + 1) = ((z + 1 : Nat) : Int) := fun z hz => wrap_next (n := 16777216) (by omega) (by omega)
    have tail : ∀ u v : Bool, rowsN (L.drop k) = stepR u.toNat v.toNat (rowsN (L.drop (k + 1))) → selvageref28_rows.n37 (selvageref28_rows.X w0 σ.length) w0 σ.length R σ (.pv (lnsP L)) k ((o + u.toNat : Nat) : Int) f v := by
      intro u v e
      refine selvageref28_rows.n37_in ?_
      rw [selvageref28_rows.b37_eq]
      cases v with
      | true =>
        rw [condB_true', w1 f h2]
        exact next u.toNat 1 (by cases u <;> decide) (Nat.le_refl _) e
      | false =>
        rw [condB_false']
        exact next u.toNat 0 (by cases u <;> decide) (Nat.zero_le _) e
    have h25 : ∀ u v : Bool, (u = true ↔ (c = 32 ∨ c = 45 ∨ c = 10)) → (v = true ↔ (c = 32 ∨ c = 43 ∨ c = 10)) → rowsN (L.drop k) = stepR u.toNat v.toNat (rowsN (L.drop (k + 1))) → selvageref28_rows.n25 (selvageref28_rows.X w0 σ.length) w0 σ.length R σ (.pv (lnsP L)) k o f (c.toNat : Nat) false := by
      intro u v hu hv e
      have h34 : selvageref28_rows.n34 (selvageref28_rows.X w0 σ.length) w0 σ.length R σ (.pv (lnsP L)) k ((o + u.toNat : Nat) : Int) f (c.toNat : Nat) := by
        refine selvageref28_rows.n34_in ?_
        rw [selvageref28_rows.b34_eq, condB_ibeq]
        have key : ∀ b : Bool, b = v → selvageref28_rows.n37 (selvageref28_rows.X w0 σ.length) w0 σ.length R σ (.pv (lnsP L)) k ((o + u.toNat : Nat) : Int) f b := by
          rintro b rfl
          exact tail u b e
        refine ite_split (fun g1 => key _ ?_) (fun g1 => ?_)
        · exact (hv.2 (.inl ((cn 32).1 g1))).symm
        · rw [condB_ibeq]
          refine ite_split (fun g2 => key _ ?_) (fun g2 => key _ ?_)
          · exact (hv.2 (.inr (.inl ((cn 43).1 g2)))).symm
          · rw [Bool.eq_iff_iff, beq_iff_eq, hv]
            refine ⟨fun h => .inr (.inr ((cn 10).1 h)), fun h => ?_⟩
            rcases h with h | h | h
            · exact absurd ((cn 32).2 h) g1
            · exact absurd ((cn 43).2 h) g2
            · exact (cn 10).2 h
      have h31 : ∀ b : Bool, b = u → selvageref28_rows.n31 (selvageref28_rows.X w0 σ.length) w0 σ.length R σ (.pv (lnsP L)) k o f (c.toNat : Nat) b := by
        rintro b rfl
        refine selvageref28_rows.n31_in ?_
        rw [selvageref28_rows.b31_eq]
        cases b with
        | true => rw [condB_true', w1 o h1]; exact h34
        | false => rw [condB_false']; exact h34
      refine selvageref28_rows.n25_in ?_
      rw [selvageref28_rows.b25_eq, condB_false', condB_ibeq]
      refine ite_split (fun g1 => h31 _ ?_) (fun g1 => ?_)
      · exact (hu.2 (.inl ((cn 32).1 g1))).symm
      · rw [condB_ibeq]
        refine ite_split (fun g2 => h31 _ ?_) (fun g2 => h31 _ ?_)
        · exact (hu.2 (.inr (.inl ((cn 45).1 g2)))).symm
        · rw [Bool.eq_iff_iff, beq_iff_eq, hu]
          refine ⟨fun h => .inr (.inr ((cn 10).1 h)), fun h => ?_⟩
          rcases h with h | h | h
          · exact absurd ((cn 32).2 h) g1
          · exact absurd ((cn 45).2 h) g2
          · exact (cn 10).2 h
    have h17 : ∀ b : Bool, b = headF (L.drop k) → selvageref28_rows.n17 (selvageref28_rows.X w0 σ.length) w0 σ.length R σ (.pv (lnsP L)) k o f b := by
      rintro b rfl
      refine selvageref28_rows.n17_in ?_
      rw [selvageref28_rows.b17_eq]
      refine condB_split (fun g => ?_) (fun g => ?_)
      · refine stop ?_
        rw [hd] at g ⊢
        unfold rowsN; rw [if_pos g]
      · have hrow : rowsN (L.drop k) = if c = 32 ∨ c = 10 then stepR 1 1 (rowsN (L.drop (k + 1))) else if c = 45 then stepR 1 0 (rowsN (L.drop (k + 1))) else if c = 43 then stepR 0 1 (rowsN (L.drop (k + 1))) else if c = 92 then stepR 0 0 (rowsN (L.drop (k + 1))) else (0, 0, 0) := by
          rw [hd] at g ⊢
          rw [rowsN, if_neg (by rw [g]; decide)]
          rfl
        refine opt_in (idx_ro tab9 (show (L.map PV.str)[k]? = some (PV.str (c :: r0)) by rw [List.getElem?_map, gl]; rfl) rfl) ?_
        repeat ((with_reducible first | apply opt_in | apply wI | apply wT | apply wP | apply wS | apply wB); exact rfl)
        refine opt_in (idx_str (k := 0) (c := c) rfl) (isI_in ?_)
        rw [condB_ibne]
        refine ite_split (fun g1 => ?_) (fun g1 => ?_)
        · have e := (cn 32).1 g1
          rw [if_pos (.inl e)] at hrow
          exact h25 true true ⟨fun _ => .inl e, fun _ => rfl⟩ ⟨fun _ => .inl e, fun _ => rfl⟩ hrow
        · have n1 : c ≠ 32 := fun h => g1 ((cn 32).2 h)
          rw [condB_ibne]
          refine ite_split (fun g2 => ?_) (fun g2 => ?_)
          · have e := (cn 45).1 g2
            subst e
            rw [if_neg (by decide), if_pos rfl] at hrow
            exact h25 true false (by decide) (by decide) hrow
          · have n2 : c ≠ 45 := fun h => g2 ((cn 45).2 h)
            rw [condB_ibne]
            refine ite_split (fun g3 => ?_) (fun g3 => ?_)
            · have e := (cn 43).1 g3
              subst e
              rw [if_neg (by decide), if_neg (by decide), if_pos rfl] at hrow
              exact h25 false true (by decide) (by decide) hrow
            · have n3 : c ≠ 43 := fun h => g3 ((cn 43).2 h)
              rw [condB_ibne]
              refine ite_split (fun g4 => ?_) (fun g4 => ?_)
              · have e := (cn 92).1 g4
                subst e
                rw [if_neg (by decide), if_neg (by decide), if_neg (by decide), if_pos rfl] at hrow
                exact h25 false false (by decide) (by decide) hrow
              · have n4 : c ≠ 92 := fun h => g4 ((cn 92).2 h)
                by_cases g5 : c = 10
                · rw [if_pos (.inr g5)] at hrow
                  rw [show ((c.toNat : Int) != 10) = false by rw [g5]; rfl]
                  exact h25 true true ⟨fun _ => .inr (.inr g5), fun _ => rfl⟩ ⟨fun _ => .inr (.inr g5), fun _ => rfl⟩ hrow
                · rw [if_neg (fun h => h.elim n1 g5), if_neg n2, if_neg n3, if_neg n4] at hrow
                  rw [show ((c.toNat : Int) != 10) = true by rw [bne_iff_ne]; exact fun h => g5 ((cn 10).1 h)]
                  refine selvageref28_rows.n25_in ?_
                  rw [selvageref28_rows.b25_eq, condB_true']
                  exact stop hrow
    refine selvageref28_rows.n6_in ?_
    rw [selvageref28_rows.b7_eq]
    repeat ((with_reducible first | apply opt_in | apply wI | apply wT | apply wP | apply wS | apply wB); exact rfl)
    rw [List.length_map, condB_decide, if_pos (by omega)]
    refine starts_spec (isB_in ?_)
    refine condB_split (fun g => ?_) (fun g => ?_)
    · rw [wrap_next hlt (by omega)]
      refine starts_spec (isB_in (h17 _ ?_))
      rw [hst, g, Bool.true_and]
    · refine h17 _ ?_
      rw [hst, g, Bool.false_and]
theorem s_rrows_spec {L : List Ln} (hne : ∀ l ∈ L, l ≠ []) (hb : L.length ≤ 8388608) {k : Nat} (hk : k ≤ L.length) (hR : ∀ x, x = rowsN (L.drop k) → R (.tup [.pv (.int .i64 (x.2.1 : Nat)), .pv (.int .i64 (x.2.2 : Nat)), .pv (.int .i64 ((k + x.1 : Nat) : Int))]) σ) : SCalls (cx w0) selvageref28_rows.id [.pv (lnsP L), .pv (.int .i64 (k : Nat))] σ R := by
  refine selvageref28_rows.calls ?_
  rw [selvageref28_rows.b0_eq]
  refine s_rrows_loop hne hb (L.length - k) k 0 0 (by omega) (Nat.zero_le _) (Nat.zero_le _) fun x hx => ?_
  have := hR x hx
  rw [Nat.zero_add, Nat.zero_add]
  exact this
end
end Go.Sv
