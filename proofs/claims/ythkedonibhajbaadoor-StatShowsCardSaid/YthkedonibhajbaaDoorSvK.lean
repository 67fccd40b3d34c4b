/- What the executor says of every plain operation is true of the model. No program stands in this text. -/
import Derived.Test.YthkedonibhajbaaDoorSvJ
set_option linter.unusedVariables false
set_option linter.unusedSimpArgs false
namespace Go.Sv
open Go Go.RowKit

theorem isI_some {kd : IntKind} {a : AV} {k : Int → Prop} (h : isI kd a k) : ∃ n, a = .pv (.int kd n) ∧ k n := by
  unfold isI at h
  split at h
  · split at h
    · rename_i e; subst e; exact ⟨_, rfl, h⟩
    · exact h.elim
  · exact h.elim
theorem isB_some {a : AV} {k : Bool → Prop} (h : isB a k) : ∃ b, a = .pv (.bool b) ∧ k b := by
  unfold isB at h
  split at h
  · exact ⟨_, rfl, h⟩
  · exact h.elim
theorem isS_some {a : AV} {k : List UInt8 → Prop} (h : isS a k) : ∃ s, a = .pv (.str s) ∧ k s := by
  unfold isS at h
  split at h
  · exact ⟨_, rfl, h⟩
  · exact h.elim
theorem isTup_some {a : AV} {k : List AV → Prop} (h : isTup a k) : ∃ vs, a = .tup vs ∧ k vs := by
  unfold isTup at h
  split at h
  · exact ⟨_, rfl, h⟩
  · exact h.elim
theorem nilCheck_sound {m : Mp} {K : KS} {a r : AV} {x : Value} (hx : ARep m K a x) (h : aNilCheck a = some r) (P : Program) (w : World) (xo : Operand) (ρ : Operand → Value) (o : Oper) (hρ : ρ xo = x) (ho : o.op = .nilCheck xo) :
    (execOp ρ o).run P w = .ok (.value x) w ∧ r = a := by
  unfold aNilCheck at h
  unfold execOp
  simp only [ho, hρ]
  split at h <;> first | cases h | skip
  · cases hx; exact ⟨rfl, rfl⟩
  · cases hx; exact ⟨rfl, rfl⟩
  · cases hx; exact ⟨rfl, rfl⟩
  · cases hx; exact ⟨rfl, rfl⟩
  · cases hx.pv_inv; exact ⟨rfl, rfl⟩
  · cases hx; exact ⟨rfl, rfl⟩
  · cases hx.pv_inv
    · exact ⟨rfl, rfl⟩
theorem fold2_sound {m : Mp} {K : KS} {P : Program} {w : World} {f : AV → AV → Option AV} {g : Value → Value → Sem Value} (hf : ∀ {x y r : AV} {xv yv : Value}, ARep m K x xv → ARep m K y yv → f x y = some r → ∃ v, (g xv yv).run P w = .ok v w ∧ ARep m K r v)
    {e : Operand → AV} {ρ : Operand → Value} (he : ∀ x, ARep m K (e x) (ρ x)) : ∀ (l : List Operand) (x r : AV) (xv : Value), ARep m K x xv → foldO f x (l.map e) = some r → ∃ v, ((l.map ρ).foldlM g xv).run P w = .ok v w ∧ ARep m K r v
  | [], x, r, xv, hx, h => by
    simp only [List.map_nil, foldO, Option.some.injEq] at h
    subst h
    exact ⟨xv, rfl, hx⟩
  | y :: l, x, r, xv, hx, h => by
    simp only [List.map_cons, foldO] at h
    split at h
    · rename_i z hz
      obtain ⟨v, hv, hr⟩ := hf hx (he y) hz
      obtain ⟨u, hu, hr'⟩ := fold2_sound hf he l z r v hr h
      exact ⟨u, by simp [List.foldlM_cons, hv, hu], hr'⟩
    · cases h
theorem min2_sound {m : Mp} {K : KS} {P : Program} {w : World} {x y r : AV} {xv yv : Value} (hx : ARep m K x xv) (hy : ARep m K y yv) (h : aMin2 x y = some r) : ∃ v, (Builtin.min2 xv yv).run P w = .ok v w ∧ ARep m K r v := by
  unfold aMin2 at h
  split at h
  · cases h
    cases hx.pv_inv
    cases hy.pv_inv
    exact ⟨_, rfl, .pv _ _ (.int _ _)⟩
  · cases h
theorem max2_sound {m : Mp} {K : KS} {P : Program} {w : World} {x y r : AV} {xv yv : Value} (hx : ARep m K x xv) (hy : ARep m K y yv) (h : aMax2 x y = some r) : ∃ v, (Builtin.max2 xv yv).run P w = .ok v w ∧ ARep m K r v := by
  unfold aMax2 at h
  split at h
  · cases h
    cases hx.pv_inv
    cases hy.pv_inv
    exact ⟨_, rfl, .pv _ _ (.int _ _)⟩
  · cases h
theorem un_sound {m : Mp} {K : KS} {P : Program} {w : World} {op : UnOp} {x r : AV} {xv : Value} (hx : ARep m K x xv) (h : aUn op x = some r) : ∃ v, (Op.unary op xv).run P w = .ok v w ∧ ARep m K r v := by
  unfold aUn at h
  split at h
  · cases h
    cases hx.pv_inv
    exact ⟨_, rfl, .pv _ _ (.int _ _)⟩
  · cases h
    cases hx.pv_inv
    exact ⟨_, rfl, .pv _ _ (.bool _)⟩
  · cases h
theorem tup2_rep {m : Mp} {K : KS} {a b : AV} {x y : Value} (h1 : ARep m K a x) (h2 : ARep m K b y) : ARep m K (.tup [a, b]) (.tuple #[x, y]) := by
  refine .tup _ _ rfl (fun j p v hp hv => ?_)
  match j with
  | 0 => simp at hp hv; subst hp; subst hv; exact h1
  | 1 => simp at hp hv; subst hp; subst hv; exact h2
  | j + 2 => simp at hp
theorem typeAssert_sound {C : Ctx} (hC : TabOK C) {m : Mp} {K : KS} {w : World} {a r : AV} {x : Value} (hx : ARep m K a x) {xt t : TypeId} {ok : Bool} (h : aTypeAssert C.tab a t ok = some r) : ∃ v, (Instr.typeAssert x xt t ok).run C.P w = .ok v w ∧ ARep m K r v := by
  unfold aTypeAssert at h
  split at h
  · cases h
  · rename_i ti hti
    have hT := hC _ _ hti
    obtain ⟨d, hu, hd⟩ := hT.under
    split at h
    · cases h
    · rename_i hnot
      have hni : ∀ ms, d ≠ .interface ms := by
        intro ms e
        subst e
        exact hnot _ hd.symm
      have fails : (Instr.typeAssert .nilIface xt t true).run C.P w = .ok (.tuple #[ti.zero, .bool false]) w := by
        cases d <;> first | exact absurd rfl (hni _) | simp [Instr.typeAssert, run_underlying hu, run_zeroValue' hT]
      have holds : ∀ (t' : TypeId) (v : Value), (Instr.typeAssert (.iface t' v) xt t ok).run C.P w = if t' = t then .ok (if ok then .tuple #[v, .bool true] else v) w else (Instr.typeAssert (.iface t' v) xt t ok).run C.P w := by
        intro t' v
        split
        · rename_i e
          subst e
          cases d <;> first | exact absurd rfl (hni _) | simp [Instr.typeAssert, run_underlying hu]
        · rfl
      have misses : ∀ (t' : TypeId) (v : Value), t' ≠ t → (Instr.typeAssert (.iface t' v) xt t true).run C.P w = .ok (.tuple #[ti.zero, .bool false]) w := by
        intro t' v e
        cases d <;> first | exact absurd rfl (hni _) | simp [Instr.typeAssert, run_underlying hu, e, run_zeroValue' hT]
      have zr : ARep m K (.tup [AV.ofValue ti.zero, .pv (.bool false)]) (.tuple #[ti.zero, .bool false]) := tup2_rep (ofValue_rep m K _) (.pv _ _ (.bool _))
      split at h
      · rename_i t' p
        cases hx.pv_inv with
        | iface _ _ v hp =>
          split at h
          · rename_i e
            cases h
            have := holds t' v
            rw [if_pos e] at this
            refine ⟨_, this, ?_⟩
            cases ok with
            | true => exact tup2_rep (.pv _ _ hp) (.pv _ _ (.bool _))
            | false => exact .pv _ _ hp
          · rename_i e
            split at h
            · rename_i hok
              cases h
              subst hok
              exact ⟨_, misses t' v e, zr⟩
            · cases h
      · rename_i t' a
        cases hx with
        | iface _ _ v hp =>
          split at h
          · rename_i e
            cases h
            have := holds t' v
            rw [if_pos e] at this
            refine ⟨_, this, ?_⟩
            cases ok with
            | true => exact tup2_rep hp (.pv _ _ (.bool _))
            | false => exact hp
          · rename_i e
            split at h
            · rename_i hok
              cases h
              subst hok
              exact ⟨_, misses t' v e, zr⟩
            · cases h
      · split at h
        · rename_i hok
          cases h
          subst hok
          cases hx.pv_inv
          exact ⟨_, fails, zr⟩
        · cases h
      · cases h
theorem makeInterface_sound {C : Ctx} (hC : TabOK C) {m : Mp} {K : KS} {w : World} {t : TypeId} {ti : TI} (hT : TIok C.P t ti) (hn : ∀ n, ti.td ≠ .iface n) {a r : AV} {x : Value} (hx : ARep m K a x) (h : aMakeInterface t a = some r) :
    ∃ v, (Instr.makeInterface t x).run C.P w = .ok v w ∧ ARep m K r v := by
  obtain ⟨d, hu, hd⟩ := hT.under
  have hni : ∀ ms, d ≠ .interface ms := by
    intro ms e
    subst e
    exact hn _ hd.symm
  have hrun : (Instr.makeInterface t x).run C.P w = .ok (.iface t x) w := by
    cases d <;> first | exact absurd rfl (hni _) | simp [Instr.makeInterface, run_underlying hu]
  refine ⟨_, hrun, ?_⟩
  unfold aMakeInterface at h
  split at h
  · cases h; exact .pv _ _ (.iface _ _ _ hx.pv_inv)
  · cases h
  · cases h; exact .iface _ _ _ hx
theorem map_reps {m : Mp} {K : KS} {e : Operand → AV} {ρ : Operand → Value} (he : ∀ x, ARep m K (e x) (ρ x)) (xs : Array Operand) : (xs.toList.map e).length = (xs.map ρ).size ∧ ∀ (j : Nat) a v, (xs.toList.map e)[j]? = some a → (xs.map ρ)[j]? = some v → ARep m K a v := by
  refine ⟨by simp, fun j a v ha hv => ?_⟩
  simp only [List.getElem?_map, Option.map_eq_some_iff, Array.getElem?_toList] at ha
  simp only [Array.getElem?_map, Option.map_eq_some_iff] at hv
  obtain ⟨x, hx, rfl⟩ := ha
  obtain ⟨y, hy, rfl⟩ := hv
  rw [hx] at hy; cases hy
  exact he x

theorem PRep.bool_inv {K : KS} {b : Bool} {v : Value} (h : PRep K (.bool b) v) : v = .bool b := by cases h; rfl
theorem PRep.int_inv {K : KS} {k : IntKind} {n : Int} {v : Value} (h : PRep K (.int k n) v) : v = .int k n := by cases h; rfl
theorem PRep.str_inv {K : KS} {s : List UInt8} {v : Value} (h : PRep K (.str s) v) : v = .string ⟨s.toArray⟩ := by cases h; rfl
theorem run_resolve_builtin {P : Program} {w : World} {ρ : Operand → Value} {o : Oper} {b : Builtin} {args : Array Operand} {ts : Array TypeId} (ho : o.op = .call { callee := .builtin b, args := args, argTypes := ts }) :
    (execOp ρ o).run P w = (builtin b ts o.type (args.map fun | .const _ => true | _ => false) (args.map ρ)).run P w := by
  simp [execOp, ho, resolve, invoke]
  rfl
theorem toList_two {α : Type} {a : Array α} {x y : α} (h : a.toList = [x, y]) : a = #[x, y] := by
  apply Array.ext'; simpa using h
theorem aopK_sound {C : Ctx} (hC : CtxOK C) {m : Mp} {K : KS} {σ : Store} {w : World} (hB : Bears C m K σ w) {e : Operand → AV} {ρ : Operand → Value} (he : ∀ x, ARep m K (e x) (ρ x)) {o : Oper} {k : AV → Store → Prop} (h : aopK C o e σ k) :
    ∃ v σ', k v σ' ∧ Ends C m K w (execOp ρ o) v σ' := by
  have hT := hC.tab
  unfold aopK at h
  split at h
  case h_1 x ho =>
    refine ⟨_, _, h, ρ x, w, m, K, .inl ?_, hB, Ext.refl _ _, he x⟩
    simp [execOp, ho]
  case h_2 x ho =>
    refine ⟨_, _, h, ρ x, w, m, K, .inl ?_, hB, Ext.refl _ _, he x⟩
    simp [execOp, ho]
  case h_3 c a b ho =>
    obtain ⟨t, ht, h⟩ := isB_some h
    have hc := he c
    rw [ht] at hc
    have hcv := hc.pv_inv.bool_inv
    cases t with
    | true => exact ⟨_, _, h, ρ a, w, m, K, .inl (by simp [execOp, ho, hcv, asBool]), hB, Ext.refl _ _, he a⟩
    | false => exact ⟨_, _, h, ρ b, w, m, K, .inl (by simp [execOp, ho, hcv, asBool]), hB, Ext.refl _ _, he b⟩
  case h_4 t ho =>
    obtain ⟨ti, hti, h⟩ := opt_some h
    have hTI := hT _ _ hti
    refine ⟨_, _, h, ?_⟩
    have hrun : (execOp ρ o).run C.P w = .ok (.value (.pointer (some ⟨w.heap.size, 0, none⟩))) (w.alloc (.cells ti.zero.cells t)) := by
      simp [execOp, ho, Instr.alloc, run_zeroValue' hTI, newVar, newRow]
    unfold newObj
    cases hb : C.isB t with
    | true =>
      have hz := hC.bld t ti hb hti
      rw [hz] at hrun
      obtain ⟨m', h1, h2, h3⟩ := hB.alloc_bld t C.u8
      exact ⟨_, _, m', K, .inl hrun, h1, h2, h3⟩
    | false =>
      have hz := zero_reps (m := m) (K := K) hTI
      obtain ⟨m', h1, h2, h3⟩ := hB.alloc_cells t _ _ hz.1 hz.2
      exact ⟨_, _, m', K, .inl hrun, h1, h2, h3⟩
  case h_5 t x ho =>
    obtain ⟨h1, h⟩ := h
    refine ⟨_, _, h, ?_⟩
    have hcr := cells_rep (he x) h1
    obtain ⟨m', h1, h2, h3⟩ := hB.alloc_cells t _ _ hcr.1 hcr.2
    exact ⟨_, _, m', K, .inl (by simp [execOp, ho, Instr.box, newVar, newRow]), h1, h2, h3⟩
  case h_6 t parts ho =>
    obtain ⟨ti, hti, h⟩ := opt_some h
    obtain ⟨v, hv, h⟩ := opt_some h
    obtain ⟨x, hx, hr⟩ := build_sound (w := w) hT he (hT _ _ hti) hv
    refine ⟨_, _, h, x, w, m, K, .inl ?_, hB, Ext.refl _ _, hr⟩
    have e1 : (parts.map fun (i, x) => (i, ρ x)) = (parts.toList.map fun p => (p.1, ρ p.2)).toArray := by
      apply Array.ext'; simp
    simp only [execOp, ho, Sem.run_bind]
    rw [e1, hx]
    rfl
  case h_7 t len parts ho =>
    obtain ⟨ti, hti, h⟩ := opt_some h
    split at h
    · rename_i el hd
      obtain ⟨ei, hei, h⟩ := opt_some h
      obtain ⟨v, σ', hv, h⟩ := opt2_some h
      obtain ⟨x, w', m', K', hx, h1, h2, h3⟩ := buildSlice_sound hB he (hT _ _ hti) hd (hT _ _ hei) hv
      refine ⟨_, _, h, x, w', m', K', .inl ?_, h1, h2, h3⟩
      have e1 : (parts.map fun (i, x) => (i, ρ x)) = (parts.toList.map fun p => (p.1, ρ p.2)).toArray := by
        apply Array.ext'; simp
      simp only [execOp, ho, Sem.run_bind]
      rw [e1, hx]
      rfl
    · exact h.elim
  case h_8 t a ho =>
    obtain ⟨ti, hti, h⟩ := opt_some h
    obtain ⟨v, hv, h⟩ := opt_some h
    obtain ⟨x, hx, hr⟩ := load_sound hB (hT _ _ hti) (he a) hv
    exact ⟨_, _, h, x, w, m, K, .inl (by simp [execOp, ho, hx]), hB, Ext.refl _ _, hr⟩
  case h_9 t a x ho =>
    obtain ⟨ti, hti, h⟩ := opt_some h
    obtain ⟨σ', hs, h⟩ := opt_some h
    obtain ⟨w', m', K', hrun, h1, h2⟩ := store_sound hB (hT _ _ hti) (he a) (he x) hs
    exact ⟨_, _, h, undef, w', m', K', .inr ⟨by simp [execOp, ho, hrun], rfl⟩, h1, h2, .dead _⟩
  case h_10 x ho =>
    obtain ⟨v, hv, h⟩ := opt_some h
    obtain ⟨hrun, rfl⟩ := nilCheck_sound (he x) hv C.P w x ρ o rfl ho
    exact ⟨_, _, h, _, w, m, K, .inl hrun, hB, Ext.refl _ _, he x⟩
  case h_11 op t x y at_ ho =>
    obtain ⟨r, hk, v, hv, hr⟩ := binOp_sound (w := w) hT (he x) (he y) h
    exact ⟨r, σ, hk, v, w, m, K, .inl (by simp only [execOp, ho]; rw [Sem.run_bind, hv]; rfl), hB, Ext.refl _ _, hr⟩
  case h_12 op t x ho =>
    obtain ⟨v, hv, h⟩ := opt_some h
    obtain ⟨u, hu, hr⟩ := un_sound (P := C.P) (w := w) (he x) hv
    exact ⟨_, _, h, u, w, m, K, .inl (by simp [execOp, ho, hu]), hB, Ext.refl _ _, hr⟩
  case h_13 src dst x ho =>
    obtain ⟨ts, hts, h⟩ := opt_some h
    obtain ⟨td, htd, h⟩ := opt_some h
    obtain ⟨v, σ', hv, h⟩ := opt2_some h
    obtain ⟨u, w', m', K', hu, h1, h2, h3⟩ := convert_sound hT hB (hT _ _ hts) (hT _ _ htd) (he x) hv
    exact ⟨_, _, h, u, w', m', K', .inl (by simp [execOp, ho, hu]), h1, h2, h3⟩
  case h_14 t x ho =>
    obtain ⟨ti, hti, h⟩ := opt_some h
    split at h
    · exact h.elim
    · rename_i hn
      obtain ⟨v, hv, h⟩ := opt_some h
      obtain ⟨u, hu, hr⟩ := makeInterface_sound (w := w) hT (hT _ _ hti) hn (he x) hv
      exact ⟨_, _, h, u, w, m, K, .inl (by simp [execOp, ho, hu]), hB, Ext.refl _ _, hr⟩
  case h_15 fn first captured ho =>
    have r1 := map_reps he first
    have r2 := map_reps he captured
    exact ⟨_, _, h, _, w, m, K, .inl (by simp [execOp, ho, Instr.makeFunc]), hB, Ext.refl _ _, .func _ _ _ _ _ r1.1 r1.2 r2.1 r2.2⟩
  case h_16 t l c ho =>
    obtain ⟨ti, hti, h⟩ := opt_some h
    split at h
    · rename_i el hd
      obtain ⟨ei, hei, h⟩ := opt_some h
      obtain ⟨n, hn, h⟩ := isI_some h
      obtain ⟨cc, hcc, h⟩ := isI_some h
      obtain ⟨v, σ', hv, h⟩ := opt2_some h
      have hl := he l
      have hc := he c
      rw [hn] at hl
      rw [hcc] at hc
      obtain ⟨u, w', m', K', hu, h1, h2, h3⟩ := makeSlice_sound (kl := .i64) (kc := .i64) hB (hT _ _ hti) hd (hT _ _ hei) hv
      exact ⟨_, _, h, u, w', m', K', .inl (by simp [execOp, ho, hl.pv_inv.int_inv, hc.pv_inv.int_inv, hu]), h1, h2, h3⟩
    · exact h.elim
  case h_17 t x lo hi ho =>
    obtain ⟨ti, hti, h⟩ := opt_some h
    obtain ⟨v, hv, h⟩ := opt_some h
    obtain ⟨u, hu, hr⟩ := slice_sound hT hB (hT _ _ hti) (he x) (lov := lo.map ρ) (hiv := hi.map ρ) (fun a ha => by
      obtain ⟨y, rfl, rfl⟩ := Option.map_eq_some_iff.1 ha
      exact ⟨_, rfl, he y⟩) (fun hn => by simpa using hn) (fun a ha => by
      obtain ⟨y, rfl, rfl⟩ := Option.map_eq_some_iff.1 ha
      exact ⟨_, rfl, he y⟩) (fun hn => by simpa using hn) hv
    exact ⟨_, _, h, u, w, m, K, .inl (by simp [execOp, ho, hu]), hB, Ext.refl _ _, hr⟩
  case h_18 t x f ho =>
    obtain ⟨ti, hti, h⟩ := opt_some h
    obtain ⟨v, hv, h⟩ := opt_some h
    obtain ⟨u, hu, hr⟩ := fieldAddr_sound (w := w) hT (hT _ _ hti) (he x) hv
    exact ⟨_, _, h, u, w, m, K, .inl (by simp [execOp, ho, hu]), hB, Ext.refl _ _, hr⟩
  case h_19 t x f ho =>
    obtain ⟨ti, hti, h⟩ := opt_some h
    obtain ⟨v, hv, h⟩ := opt_some h
    obtain ⟨u, hu, hr⟩ := field_sound (w := w) hT (hT _ _ hti) (he x) hv
    exact ⟨_, _, h, u, w, m, K, .inl (by simp [execOp, ho, hu]), hB, Ext.refl _ _, hr⟩
  case h_20 t x i ho =>
    obtain ⟨ti, hti, h⟩ := opt_some h
    split at h
    · rename_i kd n hi
      obtain ⟨v, hv, h⟩ := opt_some h
      have hix := he i
      rw [hi] at hix
      obtain ⟨u, hu, hr⟩ := indexAddr_sound (k := kd) hT hB (hT _ _ hti) (he x) hv
      exact ⟨_, _, h, u, w, m, K, .inl (by simp [execOp, ho, hix.pv_inv.int_inv, hu]), hB, Ext.refl _ _, hr⟩
    · exact h.elim
  case h_21 t x i ho =>
    obtain ⟨ti, hti, h⟩ := opt_some h
    split at h
    · rename_i kd n hi
      obtain ⟨v, hv, h⟩ := opt_some h
      have hix := he i
      rw [hi] at hix
      obtain ⟨u, hu, hr⟩ := index_sound (k := kd) (w := w) hT (hT _ _ hti) (he x) hv
      exact ⟨_, _, h, u, w, m, K, .inl (by simp [execOp, ho, hix.pv_inv.int_inv, hu]), hB, Ext.refl _ _, hr⟩
    · exact h.elim
  case h_22 x xt t ok ho =>
    obtain ⟨v, hv, h⟩ := opt_some h
    obtain ⟨u, hu, hr⟩ := typeAssert_sound (w := w) (xt := xt) hT (he x) hv
    exact ⟨_, _, h, u, w, m, K, .inl (by simp [execOp, ho, hu]), hB, Ext.refl _ _, hr⟩
  case h_23 t i ho =>
    obtain ⟨vs, hvs, h⟩ := isTup_some h
    obtain ⟨v, hv, h⟩ := opt_some h
    have ht := he t
    rw [hvs] at ht
    obtain ⟨u, hu, hr⟩ := extract_sound (C := C) (w := w) ht hv
    exact ⟨_, _, h, u, w, m, K, .inl (by simp [execOp, ho, hu]), hB, Ext.refl _ _, hr⟩
  case h_24 args ts ho =>
    obtain ⟨t, ht, h⟩ := opt_some h
    obtain ⟨x, hx, h⟩ := opt_some h
    obtain ⟨ti, hti, h⟩ := opt_some h
    obtain ⟨v, hv, h⟩ := opt_some h
    obtain ⟨u, hu, hr⟩ := len_sound (w := w) (ty := o.type) (hT _ _ hti) (he x) hv ht (xs := args.map ρ) (by simp [hx])
    refine ⟨_, _, h, u, w, m, K, .inl ?_, hB, Ext.refl _ _, hr⟩
    rw [run_resolve_builtin ho]
    simp [builtin, hu]
  case h_25 args ts ho =>
    split at h
    · rename_i t t2 s x hts hargs
      obtain ⟨ti, hti, h⟩ := opt_some h
      obtain ⟨ti2, hti2, h⟩ := opt_some h
      split at h
      · exact h.elim
      · rename_i hni
        split at h
        · rename_i el hd
          obtain ⟨ei, hei, h⟩ := opt_some h
          obtain ⟨v, σ', hv, h⟩ := opt2_some h
          obtain ⟨u, w', m', K', hu, h1, h2, h3⟩ := append_sound (ty := o.type) hB (hT _ _ hti) hd (hT _ _ hei) (hT _ _ hti2) hni (he s) (he x) hv
          refine ⟨_, _, h, u, w', m', K', .inl ?_, h1, h2, h3⟩
          rw [run_resolve_builtin ho, toList_two hts, toList_two hargs]
          simp [builtin, hu]
        · exact h.elim
    · exact h.elim
  case h_26 args ts ho =>
    split at h
    · rename_i t tr d x hts hargs
      obtain ⟨ti, hti, h⟩ := opt_some h
      split at h
      · rename_i el hd
        obtain ⟨ei, hei, h⟩ := opt_some h
        obtain ⟨v, σ', hv, h⟩ := opt2_some h
        obtain ⟨u, w', m', K', hu, h1, h2, h3⟩ := copy_sound (ty := o.type) (t2 := tr) hB (hT _ _ hti) hd (hT _ _ hei) (he d) (he x) hv
        refine ⟨_, _, h, u, w', m', K', .inl ?_, h1, h2, h3⟩
        rw [run_resolve_builtin ho, toList_two hts, toList_two hargs]
        simp [builtin, hu]
      · exact h.elim
    · exact h.elim
  case h_27 args ts ho =>
    split at h
    · rename_i x r hargs
      obtain ⟨v, hv, h⟩ := opt_some h
      obtain ⟨u, hu, hr⟩ := fold2_sound (P := C.P) (w := w) (g := Builtin.min2) min2_sound he r _ _ _ (he x) hv
      refine ⟨_, _, h, u, w, m, K, .inl ?_, hB, Ext.refl _ _, hr⟩
      rw [run_resolve_builtin ho]
      simp [builtin, Builtin.min_, hargs, hu]
    · exact h.elim
  case h_28 args ts ho =>
    split at h
    · rename_i x r hargs
      obtain ⟨v, hv, h⟩ := opt_some h
      obtain ⟨u, hu, hr⟩ := fold2_sound (P := C.P) (w := w) (g := Builtin.max2) max2_sound he r _ _ _ (he x) hv
      refine ⟨_, _, h, u, w, m, K, .inl ?_, hB, Ext.refl _ _, hr⟩
      rw [run_resolve_builtin ho]
      simp [builtin, Builtin.max_, hargs, hu]
    · exact h.elim
  case h_29 => exact h.elim

end Go.Sv
