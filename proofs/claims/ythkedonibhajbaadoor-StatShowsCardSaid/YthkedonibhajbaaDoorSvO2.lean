/- Quiet operations leave all as it was; what stands ahead of what in a region. No program stands in this text. -/
import Derived.Test.YthkedonibhajbaaDoorSvO1
set_option linter.unusedVariables false
set_option linter.unusedSimpArgs false
namespace Go.Sv
open Go Go.RowKit

theorem convert_quiet {C : Ctx} (hC : TabOK C) {m : Mp} {K : KS} {σ : Store} {w : World} (hB : Bears C m K σ w) {src dst : TypeId} {ts td : TI} (hS : TIok C.P src ts) (hD : TIok C.P dst td) {x : AV} {xv : Value} (hx : ARep m K x xv) {r : AV} {σ' : Store}
    (hk : convKind td.td ≠ 3) (h : aConvert σ C.tab ts.td td.td x = some (r, σ')) : ∃ v, (convert src dst xv).run C.P w = .ok v w ∧ ARep m K r v := by
  obtain ⟨ds, hus, hds⟩ := hS.under
  unfold aConvert at h
  split at h
  · rename_i k k' n heq
    cases h
    cases hx.pv_inv
    exact ⟨.int k (k.wrap n), by simp [convert, run_underlying hus, run_underlying (hD.int heq), Conv.intToInt], .pv _ _ (.int _ _)⟩
  · rename_i s heq
    cases h
    cases hx.pv_inv
    exact ⟨.string ⟨s.toArray⟩, by simp [convert, run_underlying hus, run_underlying (hD.str heq)], .pv _ _ (.str _)⟩
  · rename_i _ hd
    rw [hd] at hk
    exact absurd rfl hk
  · rename_i el hsrc hdst hns
    split at h
    · rename_i ei hel
      have hE := hC _ _ hel
      split at h
      · rename_i xs hei
        obtain ⟨s, hb, e⟩ := Option.map_eq_some_iff.1 h
        cases e
        exact ⟨_, run_bytes_str hB (hS.slice hsrc) (hE.int hei) (hD.str hdst) (by rfl) hx (by simp) hb, .pv _ _ (.str _)⟩
      · rename_i hei
        cases h
        exact ⟨_, run_bytes_str (s := []) hB (hS.slice hsrc) (hE.int hei) (hD.str hdst) (by rfl) hx (by simp) rfl, .pv _ _ (.str _)⟩
      · rename_i id ver off len hei
        split at h
        · rename_i xs hxs
          obtain ⟨s, hb, e⟩ := Option.map_eq_some_iff.1 h
          cases e
          exact ⟨_, run_bytes_str hB (hS.slice hsrc) (hE.int hei) (hD.str hdst) hxs hx (by simp) hb, .pv _ _ (.str _)⟩
        · cases h
      · cases h
    · cases h
  · cases h
/-- A quiet operation: the world stays. -/
theorem quiet_sound {C : Ctx} (hC : CtxOK C) {m : Mp} {K : KS} {σ : Store} {w : World} (hB : Bears C m K σ w) {e : Operand → AV} {ρ : Operand → Value} (he : ∀ x, ARep m K (e x) (ρ x)) {o : Oper} {P : AV → Prop} (hk : opKind C o = 0 ∨ opKind C o = 1)
    (h : aopK C o e σ fun v _ => P v) : ∃ v x, P v ∧ (execOp ρ o).run C.P w = .ok (.value x) w ∧ ARep m K v x := by
  have hT := hC.tab
  have hk2 : opKind C o ≠ 2 := by omega
  have hk3 : opKind C o ≠ 3 := by omega
  unfold aopK at h
  split at h
  case h_1 x ho => exact ⟨_, ρ x, h, by simp [execOp, ho], he x⟩
  case h_2 x ho => simp [opKind, ho] at hk3
  case h_3 c a b ho =>
    obtain ⟨t, ht, h⟩ := isB_some h
    have hc := he c
    rw [ht] at hc
    have hcv := hc.pv_inv.bool_inv
    cases t with
    | true => exact ⟨_, ρ a, h, by simp [execOp, ho, hcv, asBool], he a⟩
    | false => exact ⟨_, ρ b, h, by simp [execOp, ho, hcv, asBool], he b⟩
  case h_4 t ho => simp [opKind, ho] at hk2
  case h_5 t x ho => simp [opKind, ho] at hk2
  case h_6 t parts ho =>
    obtain ⟨ti, hti, h⟩ := opt_some h
    obtain ⟨v, hv, h⟩ := opt_some h
    obtain ⟨x, hx, hr⟩ := build_sound (w := w) hT he (hT _ _ hti) hv
    refine ⟨_, x, h, ?_, hr⟩
    have e1 : (parts.map fun (i, x) => (i, ρ x)) = (parts.toList.map fun p => (p.1, ρ p.2)).toArray := by
      apply Array.ext'; simp
    simp only [execOp, ho, Sem.run_bind]
    rw [e1, hx]
    rfl
  case h_7 t len parts ho => simp [opKind, ho] at hk3
  case h_8 t a ho =>
    obtain ⟨ti, hti, h⟩ := opt_some h
    obtain ⟨v, hv, h⟩ := opt_some h
    obtain ⟨x, hx, hr⟩ := load_sound hB (hT _ _ hti) (he a) hv
    exact ⟨_, x, h, by simp [execOp, ho, hx], hr⟩
  case h_9 t a x ho => simp [opKind, ho] at hk3
  case h_10 x ho =>
    obtain ⟨v, hv, h⟩ := opt_some h
    obtain ⟨hrun, rfl⟩ := nilCheck_sound (he x) hv C.P w x ρ o rfl ho
    exact ⟨_, _, h, hrun, he x⟩
  case h_11 op t x y at_ ho =>
    obtain ⟨r, hk, v, hv, hr⟩ := binOp_sound (w := w) hT (he x) (he y) h
    exact ⟨r, v, hk, by simp only [execOp, ho]; rw [Sem.run_bind, hv]; rfl, hr⟩
  case h_12 op t x ho =>
    obtain ⟨v, hv, h⟩ := opt_some h
    obtain ⟨u, hu, hr⟩ := un_sound (P := C.P) (w := w) (he x) hv
    exact ⟨_, u, h, by simp [execOp, ho, hu], hr⟩
  case h_13 src dst x ho =>
    obtain ⟨ts, hts, h⟩ := opt_some h
    obtain ⟨td, htd, h⟩ := opt_some h
    obtain ⟨v, σ', hv, h⟩ := opt2_some h
    obtain ⟨u, hu, hr⟩ := convert_quiet hT hB (hT _ _ hts) (hT _ _ htd) (he x) (by simpa [opKind, ho, htd] using hk3) hv
    exact ⟨_, u, h, by simp [execOp, ho, hu], hr⟩
  case h_14 t x ho =>
    obtain ⟨ti, hti, h⟩ := opt_some h
    split at h
    · exact h.elim
    · rename_i hn
      obtain ⟨v, hv, h⟩ := opt_some h
      obtain ⟨u, hu, hr⟩ := makeInterface_sound (w := w) hT (hT _ _ hti) hn (he x) hv
      exact ⟨_, u, h, by simp [execOp, ho, hu], hr⟩
  case h_15 fn first captured ho =>
    have r1 := map_reps he first
    have r2 := map_reps he captured
    exact ⟨_, _, h, by simp [execOp, ho, Instr.makeFunc], .func _ _ _ _ _ r1.1 r1.2 r2.1 r2.2⟩
  case h_16 t l c ho => simp [opKind, ho] at hk3
  case h_17 t x lo hi ho =>
    obtain ⟨ti, hti, h⟩ := opt_some h
    obtain ⟨v, hv, h⟩ := opt_some h
    obtain ⟨u, hu, hr⟩ := slice_sound hT hB (hT _ _ hti) (he x) (lov := lo.map ρ) (hiv := hi.map ρ) (fun a ha => by
      obtain ⟨y, rfl, rfl⟩ := Option.map_eq_some_iff.1 ha
      exact ⟨_, rfl, he y⟩) (fun hn => by simpa using hn) (fun a ha => by
      obtain ⟨y, rfl, rfl⟩ := Option.map_eq_some_iff.1 ha
      exact ⟨_, rfl, he y⟩) (fun hn => by simpa using hn) hv
    exact ⟨_, u, h, by simp [execOp, ho, hu], hr⟩
  case h_18 t x f ho =>
    obtain ⟨ti, hti, h⟩ := opt_some h
    obtain ⟨v, hv, h⟩ := opt_some h
    obtain ⟨u, hu, hr⟩ := fieldAddr_sound (w := w) hT (hT _ _ hti) (he x) hv
    exact ⟨_, u, h, by simp [execOp, ho, hu], hr⟩
  case h_19 t x f ho =>
    obtain ⟨ti, hti, h⟩ := opt_some h
    obtain ⟨v, hv, h⟩ := opt_some h
    obtain ⟨u, hu, hr⟩ := field_sound (w := w) hT (hT _ _ hti) (he x) hv
    exact ⟨_, u, h, by simp [execOp, ho, hu], hr⟩
  case h_20 t x i ho =>
    obtain ⟨ti, hti, h⟩ := opt_some h
    split at h
    · rename_i kd n hi
      obtain ⟨v, hv, h⟩ := opt_some h
      have hix := he i
      rw [hi] at hix
      obtain ⟨u, hu, hr⟩ := indexAddr_sound (k := kd) hT hB (hT _ _ hti) (he x) hv
      exact ⟨_, u, h, by simp [execOp, ho, hix.pv_inv.int_inv, hu], hr⟩
    · exact h.elim
  case h_21 t x i ho =>
    obtain ⟨ti, hti, h⟩ := opt_some h
    split at h
    · rename_i kd n hi
      obtain ⟨v, hv, h⟩ := opt_some h
      have hix := he i
      rw [hi] at hix
      obtain ⟨u, hu, hr⟩ := index_sound (k := kd) (w := w) hT (hT _ _ hti) (he x) hv
      exact ⟨_, u, h, by simp [execOp, ho, hix.pv_inv.int_inv, hu], hr⟩
    · exact h.elim
  case h_22 x xt t ok ho =>
    obtain ⟨v, hv, h⟩ := opt_some h
    obtain ⟨u, hu, hr⟩ := typeAssert_sound (w := w) (xt := xt) hT (he x) hv
    exact ⟨_, u, h, by simp [execOp, ho, hu], hr⟩
  case h_23 t i ho =>
    obtain ⟨vs, hvs, h⟩ := isTup_some h
    obtain ⟨v, hv, h⟩ := opt_some h
    have ht := he t
    rw [hvs] at ht
    obtain ⟨u, hu, hr⟩ := extract_sound (C := C) (w := w) ht hv
    exact ⟨_, u, h, by simp [execOp, ho, hu], hr⟩
  case h_24 args ts ho =>
    obtain ⟨t, ht, h⟩ := opt_some h
    obtain ⟨x, hx, h⟩ := opt_some h
    obtain ⟨ti, hti, h⟩ := opt_some h
    obtain ⟨v, hv, h⟩ := opt_some h
    obtain ⟨u, hu, hr⟩ := len_sound (w := w) (ty := o.type) (hT _ _ hti) (he x) hv ht (xs := args.map ρ) (by simp [hx])
    refine ⟨_, u, h, ?_, hr⟩
    rw [run_resolve_builtin ho]
    simp [builtin, hu]
  case h_25 args ts ho => simp [opKind, ho] at hk3
  case h_26 args ts ho => simp [opKind, ho] at hk3
  case h_27 args ts ho =>
    split at h
    · rename_i x r hargs
      obtain ⟨v, hv, h⟩ := opt_some h
      obtain ⟨u, hu, hr⟩ := fold2_sound (P := C.P) (w := w) (g := Builtin.min2) min2_sound he r _ _ _ (he x) hv
      refine ⟨_, u, h, ?_, hr⟩
      rw [run_resolve_builtin ho]
      simp [builtin, Builtin.min_, hargs, hu]
    · exact h.elim
  case h_28 args ts ho =>
    split at h
    · rename_i x r hargs
      obtain ⟨v, hv, h⟩ := opt_some h
      obtain ⟨u, hu, hr⟩ := fold2_sound (P := C.P) (w := w) (g := Builtin.max2) max2_sound he r _ _ _ (he x) hv
      refine ⟨_, u, h, ?_, hr⟩
      rw [run_resolve_builtin ho]
      simp [builtin, Builtin.max_, hargs, hu]
    · exact h.elim
  case h_29 => exact h.elim

/-! ### Bits -/
theorem hasBit_eq (m i : Nat) : hasBit m i = m.testBit i := by
  have h1 : Nat.land (Nat.shiftRight m i) 1 = m / 2 ^ i % 2 := by
    have : (m >>> i) &&& 1 = m / 2 ^ i % 2 := by rw [Nat.and_one_is_mod, Nat.shiftRight_eq_div_pow]
    exact this
  unfold hasBit
  rw [h1, Nat.testBit_eq_decide_div_mod_eq]
  rcases beq_cases (m / 2 ^ i % 2) 1 with ⟨h, hb⟩ | ⟨h, hb⟩ <;> simp [h, hb]
theorem hasBit_lor (a b i : Nat) : hasBit (Nat.lor a b) i = (hasBit a i || hasBit b i) := by
  rw [hasBit_eq, hasBit_eq, hasBit_eq]
  exact Nat.testBit_or a b i
theorem hasBit_pow (k i : Nat) : hasBit (Nat.pow 2 k) i = decide (k = i) := by
  rw [hasBit_eq]
  exact Nat.testBit_two_pow
theorem hasBit_zero (i : Nat) : hasBit 0 i = false := by rw [hasBit_eq]; simp
theorem land_sub {b loud done : Nat} : Nat.beq (Nat.land (Nat.land b loud) done) (Nat.land b loud) = true ↔ ∀ j, hasBit b j = true → hasBit loud j = true → hasBit done j = true := by
  constructor
  · intro h j h1 h2
    have e : Nat.land (Nat.land b loud) done = Nat.land b loud := Nat.eq_of_beq_eq_true h
    rw [hasBit_eq] at *
    have e2 : (Nat.land (Nat.land b loud) done).testBit j = (Nat.land b loud).testBit j := by rw [e]
    have e3 : ((b.testBit j && loud.testBit j) && done.testBit j) = (b.testBit j && loud.testBit j) := by
      have q1 : (Nat.land (Nat.land b loud) done).testBit j = ((b.testBit j && loud.testBit j) && done.testBit j) := by
        have h1 : (Nat.land (Nat.land b loud) done).testBit j = ((b &&& loud).testBit j && done.testBit j) := Nat.testBit_and (b &&& loud) done j
        rw [h1, Nat.testBit_and]
      have q2 : (Nat.land b loud).testBit j = (b.testBit j && loud.testBit j) := Nat.testBit_and b loud j
      rw [← q1, ← q2, e2]
    rw [h1, h2] at e3
    simpa using e3
  · intro h
    have : Nat.land (Nat.land b loud) done = Nat.land b loud := by
      apply Nat.eq_of_testBit_eq
      intro j
      have q1 : (Nat.land (Nat.land b loud) done).testBit j = ((b.testBit j && loud.testBit j) && done.testBit j) := by
        have h1 : (Nat.land (Nat.land b loud) done).testBit j = ((b &&& loud).testBit j && done.testBit j) := Nat.testBit_and (b &&& loud) done j
        rw [h1, Nat.testBit_and]
      have q2 : (Nat.land b loud).testBit j = (b.testBit j && loud.testBit j) := Nat.testBit_and b loud j
      rw [q1, q2]
      have hj := h j
      rw [hasBit_eq, hasBit_eq, hasBit_eq] at hj
      cases h1 : b.testBit j <;> cases h2 : loud.testBit j <;> simp
      exact hj h1 h2
    rw [this]
    simp

/-! ### What stands ahead -/
theorem nthN_get (l : List Nat) (k : Nat) : nthN l k = (l[k]?).getD 0 := by
  induction l generalizing k with
  | nil => simp [nthN]
  | cons x r ih => cases k <;> simp [nthN, ih]
theorem befOf_spec {acc : List Nat} {i : Nat} : ∀ {es : List Edge} {s : Nat}, befOf acc i es = some s →
    (∀ e ∈ es, bindsAny e = true → e.on < i ∧ hasBit s e.on = true ∧ ∀ j, hasBit (nthN acc e.on) j = true → hasBit s j = true) ∧ ∀ j, hasBit s j = true → ∃ e ∈ es, bindsAny e = true ∧ (j = e.on ∨ hasBit (nthN acc e.on) j = true)
  | [], s, h => by
    cases h
    exact ⟨by simp, fun j hj => by rw [hasBit_zero] at hj; cases hj⟩
  | e :: r, s, h => by
    simp only [befOf] at h
    split at h
    · rename_i hb
      obtain ⟨h1, h2⟩ := befOf_spec h
      refine ⟨fun x hx hbx => ?_, fun j hj => ?_⟩
      · rcases List.mem_cons.1 hx with rfl | hx
        · rw [hb] at hbx; cases hbx
        · exact h1 x hx hbx
      · obtain ⟨x, hx, h3⟩ := h2 j hj
        exact ⟨x, List.mem_cons_of_mem _ hx, h3⟩
    · rename_i hb
      split at h
      · rename_i hle
        split at h
        · rename_i s' hs'
          cases h
          obtain ⟨h1, h2⟩ := befOf_spec hs'
          refine ⟨fun x hx hbx => ?_, fun j hj => ?_⟩
          · rcases List.mem_cons.1 hx with rfl | hx
            · refine ⟨Nat.le_of_ble_eq_true hle, ?_, fun j hj => ?_⟩
              · rw [hasBit_lor, hasBit_lor, hasBit_pow]; simp
              · rw [hasBit_lor, hasBit_lor, hj]; simp
            · obtain ⟨g1, g2, g3⟩ := h1 x hx hbx
              refine ⟨g1, ?_, fun j hj => ?_⟩
              · rw [hasBit_lor, hasBit_lor, g2]; simp
              · rw [hasBit_lor, hasBit_lor, g3 j hj]; simp
          · rw [hasBit_lor, hasBit_lor, hasBit_pow] at hj
            simp only [Bool.or_eq_true, decide_eq_true_eq] at hj
            rcases hj with (hj | hj) | hj
            · obtain ⟨x, hx, h3⟩ := h2 j hj
              exact ⟨x, List.mem_cons_of_mem _ hx, h3⟩
            · exact ⟨e, by simp, hb, .inl hj.symm⟩
            · exact ⟨e, by simp, hb, .inr hj⟩
        · cases h
      · cases h
theorem befs_spec : ∀ {r : List Oper} {i : Nat} {acc bs : List Nat}, acc.length = i → befs i r acc = some bs →
    bs.length = i + r.length ∧ (∀ j, j < i → bs[j]? = acc[j]?) ∧ ∀ (j : Nat) o, r[j]? = some o → ∃ acc', (∀ k, k < i + j → nthN acc' k = nthN bs k) ∧ befOf acc' (i + j) o.after.toList = some (nthN bs (i + j))
  | [], i, acc, bs, hl, h => by
    cases h
    exact ⟨by simpa using hl, fun _ _ => rfl, fun j o hj => by simp at hj⟩
  | o :: r, i, acc, bs, hl, h => by
    simp only [befs] at h
    split at h
    · rename_i s hs
      obtain ⟨h1, h2, h3⟩ := befs_spec (i := i + 1) (by simp [hl]) h
      have hnew : bs[i]? = some s := by
        rw [h2 i (by omega), List.getElem?_append_right (by omega)]
        simp [hl]
      refine ⟨by rw [h1, List.length_cons]; omega, fun j hj => ?_, fun j p hp => ?_⟩
      · rw [h2 j (by omega), List.getElem?_append_left (by omega)]
      · cases j with
        | zero =>
          simp at hp; subst hp
          refine ⟨acc, fun k hk => ?_, ?_⟩
          · rw [nthN_get, nthN_get, h2 k (by omega), List.getElem?_append_left (by omega)]
          · rw [Nat.add_zero, nthN_get, hnew]; exact hs
        | succ j =>
          obtain ⟨acc', h4, h5⟩ := h3 j p (by simpa using hp)
          exact ⟨acc', fun k hk => h4 k (by omega), by rw [show i + (j + 1) = i + 1 + j by omega]; exact h5⟩
    · cases h

end Go.Sv
