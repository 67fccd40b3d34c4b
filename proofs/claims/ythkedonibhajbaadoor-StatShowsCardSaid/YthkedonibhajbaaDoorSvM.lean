/- One operation, then regions in the order of the text: what the executor says is true of the model. No program stands in this text. -/
import Derived.Test.YthkedonibhajbaaDoorSvL
set_option linter.unusedVariables false
set_option linter.unusedSimpArgs false
namespace Go.Sv
open Go Go.RowKit

theorem shaped_elim {td : TD} {v : AV} {k : AV → Prop} (h : shaped td v k) : k v := by
  unfold shaped at h
  split at h
  · obtain ⟨n, e, h⟩ := isI_some h; rw [e]; exact h
  · obtain ⟨b, e, h⟩ := isB_some h; rw [e]; exact h
  · obtain ⟨s, e, h⟩ := isS_some h; rw [e]; exact h
  · exact h
theorem splitB_elim {n : Bool} {v : AV} {k : AV → Prop} (h : splitB n v k) : k v := by
  unfold splitB at h
  split at h
  · exact h
  · obtain ⟨b, rfl, h⟩ := isB_some h
    cases b <;> exact h
theorem putK_elim {N : Nat} {env : Env} {dst : Option Tmp} {v : AV} {k : Env → Prop} (h : putK N env dst v k) :
    (dst = none ∧ k env) ∨ ∃ d, dst = some d ∧ d < N ∧ k (putE env d v) := by
  unfold putK at h
  split at h
  · exact .inl ⟨rfl, h⟩
  · rename_i d
    split at h
    · rename_i hb
      exact .inr ⟨d, rfl, Nat.le_of_ble_eq_true hb, h⟩
    · exact h.elim
theorem putK_put {m : Mp} {K : KS} {N : Nat} {env : Env} {dst : Option Tmp} {v : AV} {k : Env → Prop} (h : putK N env dst v k) {a : Act} {x : Value} (hN : a.tmps.size = N) (hE : EReps m K env a.tmps) (hx : ARep m K v x) :
    ∃ env', k env' ∧ EReps m K env' (a.put dst x).tmps ∧ (a.put dst x).tmps.size = N ∧ (a.put dst x).defers = a.defers := by
  rcases putK_elim h with ⟨rfl, h⟩ | ⟨d, rfl, hd, h⟩
  · exact ⟨env, h, hE, hN, rfl⟩
  · exact ⟨_, h, hE.put (by rw [hN]; exact hd) hx, by simp [Act.put, hN], rfl⟩
/-- A call, from what it comes to. -/
theorem call_sound {P : Program} {o : Oper} {a : Act} {w : World} {next : Act → World → Prop} {Q : Exit → Act → World → Prop} {f : FuncId} {args : Array Value} (hrun : (execOp a.eval o).run P w = (callFunc f args).run P w)
    (h : CallNext P f args w fun v w' => next (a.put o.dst v) w') : o.wp P a w next Q := by
  unfold Oper.wp
  rw [hrun]
  unfold CallNext at h
  split at h
  · rename_i v w' e; rw [e]; exact h
  · rename_i g as w' e
    rw [e]
    show Calls P g as w' _
    refine h.mono fun e w'' he => ?_
    obtain ⟨v, rfl, hR⟩ := he
    exact hR
  · rename_i r as w' e
    rw [e]
    exact h
  · exact h.elim
theorem CallNext.mono {P : Program} {f : FuncId} {args : Array Value} {w : World} {R R' : Value → World → Prop} (h : CallNext P f args w R) (hr : ∀ v w', R v w' → R' v w') : CallNext P f args w R' := by
  unfold CallNext at *
  split at h
  · exact hr _ _ h
  · exact h.mono fun e w'' ⟨v, e1, hR⟩ => ⟨v, e1, hr _ _ hR⟩
  · exact Rows.mono h hr
  · exact h.elim
theorem calleeV_sound {m : Mp} {K : KS} {f : AV} {fv : Value} {args : List AV} {vs : Array Value} (hf : ARep m K f fv) (ha : Reps m K args vs) {p : FuncId × List AV} (h : calleeV f args = some p) :
    ∃ us, Reps m K p.2 us ∧ ∀ (P : Program) (w : World), (do let d ← Deferred.ofValue fv vs; invoke d.target d.args : Sem Next).run P w = (callFunc p.1 us).run P w := by
  unfold calleeV at h
  split at h
  · rename_i g x y
    split at h
    · rename_i hx hy
      cases h
      have e1 := Array.eq_empty_of_size_eq_zero (Nat.eq_of_beq_eq_true hx)
      have e2 := Array.eq_empty_of_size_eq_zero (Nat.eq_of_beq_eq_true hy)
      subst e1; subst e2
      have := hf.pv_inv
      cases this with
      | raw v hv => exact ⟨vs, ha, fun P w => by simp [Deferred.ofValue, invoke]⟩
    · cases h
  · rename_i g first captured
    cases h
    cases hf with
    | func _ as bs us us' hl hr hl' hr' =>
      refine ⟨us ++ vs ++ us', ⟨by simp [hl, hl', ha.1, Nat.add_assoc], fun j a v hj hv => ?_⟩, fun P w => by simp [Deferred.ofValue, invoke]⟩
      by_cases h1 : j < first.length
      · rw [List.getElem?_append_left h1] at hj
        rw [Array.getElem?_append_left (by simp; omega), Array.getElem?_append_left (by omega)] at hv
        exact hr j a v hj hv
      · rw [List.getElem?_append_right (by omega)] at hj
        by_cases h2 : j < first.length + args.length
        · rw [List.getElem?_append_left (by omega)] at hj
          rw [Array.getElem?_append_left (by have := ha.1; simp; omega), Array.getElem?_append_right (by omega), ← hl] at hv
          exact ha.2 _ a v hj hv
        · rw [List.getElem?_append_right (by omega)] at hj
          rw [Array.getElem?_append_right (by have := ha.1; simp; omega)] at hv
          have e : j - first.length - args.length = j - (us ++ vs).size := by have := ha.1; simp; omega
          rw [e] at hj
          exact hr' _ a v hj hv
  · cases h
/-- One operation. -/
theorem op_sound {C : Ctx} (hC : CtxOK C) {m : Mp} {K : KS} {σ : Store} {w : World} (hB : Bears C m K σ w) {a : Act} {o : Oper} {e : Operand → AV} (he : ∀ x, ARep m K (e x) (a.eval x)) {k : AV → Store → Prop} (h : opK C o e σ k)
    {next : Act → World → Prop} {Q : Exit → Act → World → Prop}
    (hnext : ∀ v σ' m' K' w' x, k v σ' → Bears C m' K' σ' w' → σ.length ≤ σ'.length → Le σ.length m K m' K' → ARep m' K' v x → next (a.put o.dst x) w') : o.wp C.P a w next Q := by
  unfold opK at h
  split at h
  · obtain ⟨p, hp, h⟩ := opt_some h
    unfold calleeOf at hp
    split at hp
    · rename_i f args ts ho
      have hargs : Reps m K (args.toList.map e) (args.map a.eval) := by
        obtain ⟨h1, h2⟩ := map_reps he args
        exact ⟨h1, h2⟩
      obtain ⟨us, hus, hrun⟩ := calleeV_sound (he f) hargs hp
      refine call_sound (f := p.1) (args := us) ?_ ((h m K w us hB hus).mono fun v w' hR => ?_)
      · have := hrun C.P w
        simp only [execOp, ho, resolve]
        exact this
      · obtain ⟨r, m', K', σ', h1, h2, h3, h4, h5⟩ := hR
        exact hnext r σ' m' K' w' v h5 h1 h2 h3 h4
    · cases hp
  · obtain ⟨v, σ', ⟨hk, hlen⟩, x, w', m', K', hrun, h1, h2, h3⟩ := aopK_sound hC hB he (aopK_mono h (k' := fun v σ' => k v σ' ∧ σ.length ≤ σ'.length) fun v σ' h l => ⟨h, l⟩)
    have hn := hnext v σ' m' K' w' x hk h1 hlen (h2.le _) h3
    unfold Oper.wp
    rcases hrun with hr | ⟨hr, rfl⟩
    · rw [hr]; exact hn
    · rw [hr]; exact hn

end Go.Sv
