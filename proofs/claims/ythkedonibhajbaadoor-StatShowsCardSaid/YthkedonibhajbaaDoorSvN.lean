/- Regions in the order of the text, loops, the end of a call: what the executor says is true of the model. No program stands in this text. -/
import Derived.Test.YthkedonibhajbaaDoorSvM
set_option linter.unusedVariables false
set_option linter.unusedSimpArgs false
namespace Go.Sv
open Go Go.RowKit

theorem wanted_of {ops : Array Oper} {m : Mp} {K : KS} {env : Env} {a : Act} (hE : EReps m K env a.tmps) {o : Oper} {b : Bool} (h : wantedA ops.toList env o = some b) : Region.wanted o (yielded ops a.tmps) = b := by
  unfold wantedA at h
  unfold Region.wanted
  split at h
  · rename_i hg
    cases h
    simp [hg]
  · rename_i j want hg
    simp only [hg]
    split at h
    · rename_i oj hj
      split at h
      · rename_i d hd
        have hEd := hE d
        have hop : (ops[j]?).bind (·.dst) = some d := by
          have : ops[j]? = some oj := by simpa using hj
          simp [this, hd]
        split at h
        · rename_i v hv
          rw [hv] at hEd
          have hvv := hEd.pv_inv.bool_inv
          have hsome : a.tmps[d]? = some (.bool v) := by
            rw [Array.getD_eq_getD_getElem?] at hvv
            cases hq : a.tmps[d]? with
            | none => rw [hq] at hvv; simp [undef] at hvv
            | some x => rw [hq] at hvv; simp at hvv; rw [hvv]
          have hy : yielded ops a.tmps j = some v := by
            unfold yielded
            rw [hop]
            simp [hsome]
          rw [hy]
          split at h
          · cases h; rfl
          · cases h; rfl
          · rename_i h1 h2
            cases h
            cases v <;> cases want <;> first | rfl | exact (h1 rfl rfl).elim | exact (h2 rfl rfl).elim
        · rename_i hv
          rw [hv] at hEd
          cases h
          have hvv : a.tmps.getD d undef = .tuple #[] := by
            generalize a.tmps.getD d undef = q at hEd
            cases hEd with
            | tup _ vs hl hr =>
              have : vs = #[] := Array.eq_empty_of_size_eq_zero (by simpa using hl.symm)
              rw [this]
          have hy : yielded ops a.tmps j = none := by
            unfold yielded
            rw [hop]
            rw [Array.getD_eq_getD_getElem?] at hvv
            cases hq : a.tmps[d]? with
            | none => simp [hq]
            | some x => rw [hq] at hvv; simp at hvv; simp [hq, hvv]
          rw [hy]
          rfl
        · cases h
      · cases h
    · cases h
theorem undef_rep {m : Mp} {K : KS} : ARep m K (.tup []) undef := .tup _ _ rfl (fun j p v hp => by simp at hp)
/-- Where the frame and the world stand, while code runs. -/
structure At (C : Ctx) (N n : Nat) (m0 : Mp) (K0 : KS) (m : Mp) (K : KS) (env : Env) (σ : Store) (a : Act) (w : World) : Prop where
  bears : Bears C m K σ w
  len : n ≤ σ.length
  size : a.tmps.size = N
  reps : EReps m K env a.tmps
  defers : a.defers = []
  le : Le n m0 K0 m K
theorem At.next {C : Ctx} {N n : Nat} {m0 : Mp} {K0 : KS} {m : Mp} {K : KS} {env : Env} {σ : Store} {a : Act} {w : World} (h : At C N n m0 K0 m K env σ a w) {m' : Mp} {K' : KS} {σ' : Store} {w' : World} (hB : Bears C m' K' σ' w') (hl : σ.length ≤ σ'.length) (hle : Le σ.length m K m' K')
    {dst : Option Tmp} {v : AV} {x : Value} (hx : ARep m' K' v x) {k : Env → Prop} (hk : putK N env dst v k) : ∃ env', k env' ∧ At C N n m0 K0 m' K' env' σ' (a.put dst x) w' := by
  have hext := hle.ext h.bears
  obtain ⟨env', hk', h1, h2, h3⟩ := putK_put hk h.size (h.reps.mono hext) hx
  exact ⟨env', hk', hB, Nat.le_trans h.len hl, h2, h1, h3.trans h.defers, h.le.trans (hle.less h.len)⟩
theorem pops_sound {C : Ctx} (hC : CtxOK C) {N n : Nat} {m0 : Mp} {K0 : KS} {ops : Array Oper} {Q : Exit → Env → Store → Prop} : ∀ (r : List Oper) (i : Nat) (env : Env) (σ : Store), ops.toList.drop i = r → pops C N ops.toList r i env σ (Q .normal) →
    ∀ m K a w, At C N n m0 K0 m K env σ a w → wpOps C.P ops (SPost C N n m0 K0 Q) (List.range' i r.length) a w
  | [], i, env, σ, _, h, m, K, a, w, hA => by
    simp only [List.length_nil, List.range'_zero]
    exact ⟨env, σ, m, K, hA.bears, hA.len, hA.size, hA.reps, hA.defers, hA.le, h⟩
  | o :: r, i, env, σ, hr, h, m, K, a, w, hA => by
    have ho : ops[i]? = some o := by
      have : ops.toList[i]? = some o := by
        have := congrArg List.head? hr
        rw [List.head?_drop] at this
        simpa using this
      simpa using this
    have hr' : ops.toList.drop (i + 1) = r := by
      have := congrArg List.tail hr
      rw [List.tail_drop] at this
      simpa using this
    simp only [List.length_cons, List.range'_succ]
    simp only [wpOps, ho]
    simp only [pops] at h
    split at h
    · rename_i hw
      rw [wanted_of hA.reps hw]
      simp only [if_true]
      left
      unfold pop at h
      refine op_sound hC hA.bears (fun x => ev_rep hA.bears hA.reps x) h ?_
      intro v σ' m' K' w' x hk h1 h2 h3 h4
      obtain ⟨env', hk', hA'⟩ := hA.next h1 h2 h3 h4 (splitB_elim (shaped_elim hk))
      exact pops_sound hC r (i + 1) env' σ' hr' hk' m' K' _ w' hA'
    · rename_i hw
      rw [wanted_of hA.reps hw]
      simp only [Bool.false_eq_true, if_false]
      obtain ⟨env', hk', hA'⟩ := hA.next hA.bears (Nat.le_refl _) (Le.refl _ _ _) undef_rep h
      exact pops_sound hC r (i + 1) env' σ hr' hk' m K _ w hA'
    · exact h.elim
theorem At.swp {C : Ctx} {N n : Nat} {c : Code} {env : Env} {σ : Store} {Q : Exit → Env → Store → Prop} (h : ∀ m0 K0 m K a w, At C N n m0 K0 m K env σ a w → c.wp C.P (SPost C N n m0 K0 Q) a w) : Swp C N n c env σ Q :=
  fun m K w a hB hn hN hE hd => h m K m K a w ⟨hB, hn, hN, hE, hd, Le.refl _ _ _⟩
theorem Swp.at {C : Ctx} {N n : Nat} {c : Code} {env : Env} {σ : Store} {Q : Exit → Env → Store → Prop} (h : Swp C N n c env σ Q) {m0 K0 m K a w} (hA : At C N n m0 K0 m K env σ a w) : c.wp C.P (SPost C N n m0 K0 Q) a w := by
  refine wp_mono (h m K w a hA.bears hA.len hA.size hA.reps hA.defers) fun e a' w' hp => ?_
  obtain ⟨env', σ', m', K', h1, h2, h3, h4, h5, h6, h7⟩ := hp
  exact ⟨env', σ', m', K', h1, h2, h3, h4, h5, hA.le.trans h6, h7⟩
theorem SPost.at {C : Ctx} {N n : Nat} {m0 : Mp} {K0 : KS} {Q : Exit → Env → Store → Prop} {e : Exit} {a : Act} {w : World} (h : SPost C N n m0 K0 Q e a w) : ∃ env σ m K, At C N n m0 K0 m K env σ a w ∧ Q e env σ := by
  obtain ⟨env', σ', m', K', h1, h2, h3, h4, h5, h6, h7⟩ := h
  exact ⟨env', σ', m', K', ⟨h1, h2, h3, h4, h5, h6⟩, h7⟩
theorem At.post {C : Ctx} {N n : Nat} {m0 : Mp} {K0 : KS} {Q : Exit → Env → Store → Prop} {e : Exit} {m K env σ a w} (h : At C N n m0 K0 m K env σ a w) (hq : Q e env σ) : SPost C N n m0 K0 Q e a w :=
  ⟨env, σ, m, K, h.bears, h.len, h.size, h.reps, h.defers, h.le, hq⟩
theorem At.prune {C : Ctx} {N n : Nat} {m0 : Mp} {K0 : KS} {m K env σ a w} (h : At C N n m0 K0 m K env σ a w) (l : List Nat) : At C N n m0 K0 m K (prune l env) σ a w :=
  ⟨h.bears, h.len, h.size, h.reps.prune l, h.defers, h.le⟩
theorem region_sound {C : Ctx} (hC : CtxOK C) {N n id : Nat} {ops : Array Oper} {env : Env} {σ : Store} {Q : Exit → Env → Store → Prop} (h : pops C N ops.toList ops.toList 0 env σ (Q .normal)) : Swp C N n (.region id ops false) env σ Q := by
  refine At.swp fun m0 K0 m K a w hA => wp_region ?_
  have := pops_sound hC (n := n) (m0 := m0) (K0 := K0) ops.toList 0 env σ rfl h m K a w hA
  rw [← List.range_eq_range'] at this
  simpa using this
theorem seq_sound {C : Ctx} {N n : Nat} {x y : Code} {env : Env} {σ : Store} {Q : Exit → Env → Store → Prop} {l : List Nat} (hx : Swp C N n x env σ (thenQ (fun env σ => Swp C N n y (prune l env) σ Q) Q)) : Swp C N n (.seq x y) env σ Q := by
  refine At.swp fun m0 K0 m K a w hA => wp_seq (wp_mono (hx.at hA) fun e a' w' hp => ?_)
  obtain ⟨env', σ', m', K', hA', hq⟩ := hp.at
  cases e with
  | normal => exact Swp.at hq (hA'.prune l)
  | exit j => exact hA'.post (e := .exit j) hq
  | goto j => exact hA'.post (e := .goto j) hq
  | ret => exact hA'.post (e := .ret) hq
  | panic c => exact hA'.post (e := .panic c) hq
  | outgrown => exact hA'.post (e := .outgrown) hq
theorem cond_sound {C : Ctx} {N n : Nat} {c : Operand} {x y : Code} {env : Env} {σ : Store} {Q : Exit → Env → Store → Prop} {b : Bool} (hc : ev C env c = .pv (.bool b)) (h : Swp C N n (if b then x else y) env σ Q) : Swp C N n (.cond c x y) env σ Q := by
  refine At.swp fun m0 K0 m K a w hA => ?_
  have := ev_rep hA.bears hA.reps c
  rw [hc] at this
  exact wp_cond this.pv_inv.bool_inv (Swp.at h hA)
theorem block_sound {C : Ctx} {N n id : Nat} {c : Code} {env : Env} {σ : Store} {Q : Exit → Env → Store → Prop} (h : Swp C N n c env σ (blockQ id Q)) : Swp C N n (.block id c) env σ Q := by
  refine At.swp fun m0 K0 m K a w hA => wp_block (wp_mono (h.at hA) fun e a' w' hp => ?_)
  obtain ⟨env', σ', m', K', hA', hq⟩ := hp.at
  cases e with
  | exit j =>
    simp only [blockQ] at hq
    rcases beq_cases j id with ⟨e, hb⟩ | ⟨e, hb⟩
    · rw [hb] at hq
      simp only [Exit.inBlock, e, if_true]
      exact hA'.post hq
    · rw [hb] at hq
      simp only [Exit.inBlock, e, if_false]
      exact hA'.post hq
  | normal => exact hA'.post (e := .normal) hq
  | goto j => exact hA'.post (e := .goto j) hq
  | ret => exact hA'.post (e := .ret) hq
  | panic c => exact hA'.post (e := .panic c) hq
  | outgrown => exact hA'.post (e := .outgrown) hq

/-! ### Loops -/
theorem loopAt.wp {P : Program} {c : Code} {Q : Exit → Act → World → Prop} {a : Act} {w : World} (h : loopAt P c Q a w) : (Code.loop c).wp P Q a w := by
  intro b k cs
  obtain ⟨e, a', w', hq, harr⟩ := h b k cs
  exact ⟨e, a', w', hq, .of_steps (.one step_loop) harr⟩
theorem loopAt.mono {P : Program} {c : Code} {Q Q' : Exit → Act → World → Prop} {a : Act} {w : World} (h : loopAt P c Q a w) (hq : ∀ e a w, Q e a w → Q' e a w) : loopAt P c Q' a w := by
  intro b k cs
  obtain ⟨e, a', w', h1, harr⟩ := h b k cs
  exact ⟨e, a', w', hq _ _ _ h1, harr⟩
theorem loopAt.round {P : Program} {c : Code} {Q : Exit → Act → World → Prop} {a : Act} {w : World} (h : c.wp P (Exit.then (loopAt P c Q) Q) a w) : loopAt P c Q a w := by
  intro b k cs
  obtain ⟨e, a₁, w₁, hq, harr⟩ := h b (.inLoop c :: k) cs
  cases e with
  | normal =>
    obtain ⟨e₂, a₂, w₂, hq₂, harr₂⟩ := hq b k cs
    exact ⟨e₂, a₂, w₂, hq₂, .of_steps (Steps.trans harr (.one step_inLoop)) harr₂⟩
  | exit id => exact ⟨_, a₁, w₁, hq, .pass (x := .inLoop c) rfl (fun _ _ => .inl (by simp)) harr⟩
  | goto l => exact ⟨_, a₁, w₁, hq, .pass (x := .inLoop c) rfl (fun _ _ => .inl (by simp)) harr⟩
  | ret => exact ⟨_, a₁, w₁, hq, .pass (x := .inLoop c) rfl (fun _ _ => .inl (by simp)) harr⟩
  | panic ch => exact ⟨_, a₁, w₁, hq, .pass (x := .inLoop c) rfl (fun _ _ => .inl (by simp)) harr⟩
  | outgrown => exact ⟨_, a₁, w₁, hq, .pass (x := .inLoop c) rfl (fun _ _ => .inl (by simp)) harr⟩
theorem SLoop.at {C : Ctx} {N n : Nat} {c : Code} {env : Env} {σ : Store} {Q : Exit → Env → Store → Prop} (h : SLoop C N n c env σ Q) {m0 K0 m K a w} (hA : At C N n m0 K0 m K env σ a w) : loopAt C.P c (SPost C N n m0 K0 Q) a w := by
  refine (h m K w a hA.bears hA.len hA.size hA.reps hA.defers).mono fun e a' w' hp => ?_
  obtain ⟨env', σ', m', K', h1, h2, h3, h4, h5, h6, h7⟩ := hp
  exact ⟨env', σ', m', K', h1, h2, h3, h4, h5, hA.le.trans h6, h7⟩
theorem loop_sound {C : Ctx} {N n : Nat} {c : Code} {env : Env} {σ : Store} {Q : Exit → Env → Store → Prop} {l : List Nat} (h : SLoop C N n c (prune l env) σ Q) : Swp C N n (.loop c) env σ Q :=
  At.swp fun m0 K0 m K a w hA => (SLoop.at h (hA.prune l)).wp
theorem SLoop.round {C : Ctx} {N n : Nat} {c : Code} {env : Env} {σ : Store} {Q : Exit → Env → Store → Prop} {l : List Nat} (h : Swp C N n c env σ (thenQ (fun env σ => SLoop C N n c (prune l env) σ Q) Q)) : SLoop C N n c env σ Q := by
  intro m K w a hB hn hN hE hd
  have hA : At C N n m K m K env σ a w := ⟨hB, hn, hN, hE, hd, Le.refl _ _ _⟩
  refine loopAt.round (wp_mono (h.at hA) fun e a' w' hp => ?_)
  obtain ⟨env', σ', m', K', hA', hq⟩ := hp.at
  cases e with
  | normal => exact SLoop.at hq (hA'.prune l)
  | exit j => exact hA'.post (e := .exit j) hq
  | goto j => exact hA'.post (e := .goto j) hq
  | ret => exact hA'.post (e := .ret) hq
  | panic c => exact hA'.post (e := .panic c) hq
  | outgrown => exact hA'.post (e := .outgrown) hq

end Go.Sv
