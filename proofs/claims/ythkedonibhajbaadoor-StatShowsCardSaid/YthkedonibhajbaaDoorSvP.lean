/- Code and whole calls over stores: what the executor says is true of the model. No program stands in this text. -/
import Derived.Test.YthkedonibhajbaaDoorSvO
set_option linter.unusedVariables false
set_option linter.unusedSimpArgs false
namespace Go.Sv
open Go Go.RowKit

theorem Swp.mono {C : Ctx} {N n : Nat} {c : Code} {env : Env} {σ : Store} {Q Q' : Exit → Env → Store → Prop} (h : Swp C N n c env σ Q) (hq : ∀ e env σ, Q e env σ → Q' e env σ) : Swp C N n c env σ Q' := by
  refine At.swp fun m0 K0 m K a w hA => wp_mono (h.at hA) fun e a' w' hp => ?_
  obtain ⟨env', σ', m', K', hA', hq'⟩ := hp.at
  exact hA'.post (hq _ _ _ hq')
theorem condB_elim {b : Bool} {x y : Prop} (h : condB b x y) : if b then x else y := by cases b <;> exact h
theorem pcode_sound {C : Ctx} (hC : CtxOK C) {N : Nat} {L : Nat → List Nat} {n : Nat} : ∀ (c : Code) (k : Nat) (env : Env) (σ : Store) (Q : Exit → Env → Store → Prop), pcode C N L n c k env σ Q → Swp C N n c env σ Q
  | .skip, k, env, σ, Q, h => At.swp fun m0 K0 m K a w hA => wp_skip (hA.post h)
  | .label l, k, env, σ, Q, h => At.swp fun m0 K0 m K a w hA => wp_label (hA.post h)
  | .region id ops draw, k, env, σ, Q, h => by
    cases draw with
    | true => exact draw_sound hC hC.mixed h
    | false => exact region_sound hC h
  | .seq a b, k, env, σ, Q, h => by
    refine seq_sound (l := L (k + 1 + csize a)) ((pcode_sound hC a (k + 1) env σ _ h).mono fun e env σ hq => ?_)
    cases e with
    | normal => exact pcode_sound hC b _ _ _ _ hq
    | _ => exact hq
  | .cond c t f, k, env, σ, Q, h => by
    obtain ⟨b, hb, h⟩ := isB_some h
    refine cond_sound hb ?_
    cases b with
    | true => exact pcode_sound hC t _ _ _ _ h
    | false => exact pcode_sound hC f _ _ _ _ h
  | .block id c, k, env, σ, Q, h => block_sound (pcode_sound hC c _ _ _ _ h)
  | .loop c, k, env, σ, Q, h => loop_sound h
  | .exit id, k, env, σ, Q, h => At.swp fun m0 K0 m K a w hA => wp_exit (hA.post h)
  | .ret, k, env, σ, Q, h => At.swp fun m0 K0 m K a w hA => wp_ret (hA.post h)
  | .goto _, _, _, _, _, h => h.elim
  | .scope _, _, _, _, _, h => h.elim
/-- One round of a loop. -/
theorem SLoop_unroll {C : Ctx} (hC : CtxOK C) {N : Nat} {L : Nat → List Nat} {n : Nat} {c : Code} {k : Nat} {env : Env} {σ : Store} {Q : Exit → Env → Store → Prop}
    (h : pcode C N L n c (k + 1) env σ (thenQ (fun env σ => SLoop C N n c (prune (L k) env) σ Q) Q)) : SLoop C N n c env σ Q := SLoop.round (l := L k) (pcode_sound hC c _ _ _ _ h)

/-! ### A call -/
theorem aLoad_addr {σ : Store} {ti : TI} {a r : AV} (h : aLoad σ ti a = some r) {m : Mp} {K : KS} {x : Value} (hx : ARep m K a x) : ∃ ad, x = .pointer (some ad) := by
  unfold aLoad at h
  split at h
  · cases hx; exact ⟨_, rfl⟩
  · cases hx; exact ⟨_, rfl⟩
  · cases hx; exact ⟨_, rfl⟩
  · cases h
theorem res_sound {C : Ctx} (hC : CtxOK C) {m : Mp} {K : KS} {σ : Store} {w : World} (hB : Bears C m K σ w) {env : Env} {tmps : Array Value} (hE : EReps m K env tmps) : ∀ (l : List ResultVar) (k : List AV → Prop), aRes C env σ l k →
    ∃ as, k as ∧ ∃ vs : List Value, (l.mapM (fun | .tmp t => pure (tmps.getD t undef) | .cell a t => do loadVar t (← asAddr (tmps.getD a undef)) : ResultVar → Sem Value)).run C.P w = .ok vs w ∧ as.length = vs.length ∧ ∀ (j : Nat) a v, as[j]? = some a → vs[j]? = some v → ARep m K a v
  | [], k, h => ⟨[], h, [], by simp, rfl, fun j a v hj => by simp at hj⟩
  | .tmp t :: r, k, h => by
    obtain ⟨as, hk, vs, hr, hl, hrep⟩ := res_sound hC hB hE r _ h
    refine ⟨_, hk, tmps.getD t undef :: vs, ?_, by simp [hl], fun j a v hj hv => ?_⟩
    · simp only [List.mapM_cons, Sem.run_bind, Sem.run_pure, Result.andThen_ok]
      rw [hr]
      rfl
    · cases j with
      | zero => simp at hj hv; subst hj; subst hv; have := hE t; simpa [Array.getD_eq_getD_getElem?] using this
      | succ j => exact hrep j a v (by simpa using hj) (by simpa using hv)
  | .cell a t :: r, k, h => by
    obtain ⟨ti, hti, h⟩ := opt_some h
    obtain ⟨x, hx, h⟩ := opt_some h
    obtain ⟨as, hk, vs, hr, hl, hrep⟩ := res_sound hC hB hE r _ h
    obtain ⟨u, hu, hur⟩ := load_sound hB (hC.tab _ _ hti) (hE a) hx
    obtain ⟨ad, had⟩ := aLoad_addr hx (hE a)
    have hu' : (loadVar t ad).run C.P w = .ok u w := by
      rw [had] at hu
      simpa [Instr.loadAt, Instr.sureAddr] using hu
    refine ⟨_, hk, u :: vs, ?_, by simp [hl], fun j a v hj hv => ?_⟩
    · have haddr : (asAddr (tmps.getD a undef)).run C.P w = .ok ad w := by rw [had]; rfl
      simp only [List.mapM_cons, Sem.run_bind, haddr, hu', Sem.run_pure, Result.andThen_ok]
      rw [hr]
      rfl
    · cases j with
      | zero => simp at hj hv; subst hj; subst hv; exact hur
      | succ j => exact hrep j a v (by simpa using hj) (by simpa using hv)
theorem results_sound {C : Ctx} (hC : CtxOK C) {m : Mp} {K : KS} {σ : Store} {w : World} (hB : Bears C m K σ w) {env : Env} {tmps : Array Value} (hE : EReps m K env tmps) {fn : Func} {k : List AV → Prop} (h : aRes C env σ fn.results.toList k) :
    ∃ as, k as ∧ ∃ v, (results fn tmps).run C.P w = .ok v w ∧ ARep m K (one as) v := by
  obtain ⟨as, hk, vs, hr, hl, hrep⟩ := res_sound hC hB hE _ _ h
  refine ⟨as, hk, if h : vs.toArray.size = 1 then vs.toArray[0] else .tuple vs.toArray, ?_, ?_⟩
  · unfold results
    rw [Array.mapM_eq_mapM_toList]
    rw [Sem.run_bind, Sem.run_map]
    have e : (List.mapM (fun | .tmp t => pure (tmps.getD t undef) | .cell a t => do loadVar t (← asAddr (tmps.getD a undef)) : ResultVar → Sem Value) fn.results.toList).run C.P w = .ok vs w := hr
    refine Eq.trans (congrArg (fun x => (Result.andThen (Result.andThen x _) _)) e) ?_
    rfl
  · match as, vs, hl with
    | [], [], _ => exact .tup _ _ rfl (fun j a v hj => by simp at hj)
    | [a], [v], _ => exact hrep 0 a v rfl rfl
    | a :: b :: r, v :: u :: t, hl =>
      rw [dif_neg (by simp)]
      exact .tup _ _ (by simpa using hl) (fun j a v hj hv => hrep j a v hj (by simpa using hv))
theorem SCalls.enter {C : Ctx} (hC : CtxOK C) {f : FuncId} {fn : Func} {c : Code} {L : Nat → List Nat} {args : List AV} {σ : Store} {R : AV → Store → Prop} (hf : C.P.funcs[f]? = some fn) (hname : (fn.name == "runtime.NumGoroutine") = false) (hb : fn.body = some c)
    (hargs : Nat.ble args.length fn.ntmps = true) (h : pcode C fn.ntmps L σ.length c 0 (argsE 0 args) σ (finQ C fn σ.length R)) : SCalls C f args σ R := by
  intro m K w vs hB hvs
  have hcall : (callFunc f vs).run C.P w = .ok (.enter f vs) w := by
    have h1 : fn.name ≠ "runtime.NumGoroutine" := by simpa using hname
    simp [callFunc, hf, h1, hb]
  unfold CallNext
  rw [hcall]
  refine calls_of_wp hf hb ?_
  have hsz : args.length ≤ fn.ntmps := Nat.le_of_ble_eq_true hargs
  have hA : At C fn.ntmps σ.length m K m K (argsE 0 args) σ { tmps := vs ++ Array.replicate (fn.ntmps - vs.size) undef, defers := [] } w :=
    ⟨hB, Nat.le_refl _, by have := hvs.1; simp; omega, EReps.args hvs _, rfl, Le.refl _ _ _⟩
  refine wp_mono ((pcode_sound hC c 0 _ _ _ h).at hA) fun e a' w' hp => ?_
  obtain ⟨env', σ', m', K', hA', hq⟩ := hp.at
  have fin : finQ C fn σ.length R .ret env' σ' → a'.defers = [] ∧ ∃ v, (results fn a'.tmps).run C.P w' = .ok v w' ∧ ∃ v', Ending.returned v = .returned v' ∧ ∃ r m' K' σ', Bears C m' K' σ' w' ∧ σ.length ≤ σ'.length ∧ Le σ.length m K m' K' ∧ ARep m' K' r v' ∧ R r σ' := by
    intro hq
    obtain ⟨as, ⟨r', σ'', hw, hR⟩, v, hv, hrep⟩ := results_sound hC hA'.bears hA'.reps hq
    obtain ⟨m'', K'', h1, h2, h3, h4⟩ := hw m' K' w' v hA'.bears hrep
    exact ⟨hA'.defers, v, hv, v, rfl, r', m'', K'', σ'', h1, h4, hA'.le.trans h3, h2, hR⟩
  cases e with
  | ret => exact fin hq
  | normal => exact fin hq
  | _ => exact hq.elim

end Go.Sv
