/- Code with cuts: what stands at a cut is left to 'X', so that a piece is worked out up to its cuts and no further. No program stands in this text. -/
import Derived.Test.YthkedonibhajbaaDoorSvU
set_option linter.unusedVariables false
set_option linter.unusedSimpArgs false
namespace Go.Sv
open Go Go.RowKit

abbrev XT := Code → Nat → Env → Store → (Exit → Env → Store → Prop) → Prop
def pcodeX (C : Ctx) (N : Nat) (L : Nat → List Nat) (n : Nat) (S : List Nat) (X : XT) : Code → Nat → Env → Store → (Exit → Env → Store → Prop) → Prop
  | .skip, _, env, σ, Q => Q .normal env σ
  | .label _, _, env, σ, Q => Q .normal env σ
  | .region _ ops draw, _, env, σ, Q => match draw with
    | true => pdraw C N ops.toList env σ (Q .normal)
    | false => pops C N ops.toList ops.toList 0 env σ (Q .normal)
  | .seq a b, k, env, σ, Q => pcodeX C N L n S X a (k + 1) env σ (thenQ (fun env σ => match memN (k + 1 + csize a) S with
    | true => X b (k + 1 + csize a) (prune (L (k + 1 + csize a)) env) σ Q
    | false => pcodeX C N L n S X b (k + 1 + csize a) (prune (L (k + 1 + csize a)) env) σ Q) Q)
  | .cond c t f, k, env, σ, Q => isB (ev C env c) fun b => condB b (pcodeX C N L n S X t (k + 1) env σ Q) (pcodeX C N L n S X f (k + 1 + csize t) env σ Q)
  | .block id c, k, env, σ, Q => pcodeX C N L n S X c (k + 1) env σ (blockQ id Q)
  | .loop c, k, env, σ, Q => X (.loop c) k (prune (L k) env) σ Q
  | .exit id, _, env, σ, Q => Q (.exit id) env σ
  | .ret, _, env, σ, Q => Q .ret env σ
  | _, _, _, _, _ => False
/-- What stands at a cut. -/
def xr (C : Ctx) (N : Nat) (L : Nat → List Nat) (n : Nat) : XT := fun c k env σ Q => match c with
  | .loop c => SLoop C N n c env σ Q
  | c => pcode C N L n c k env σ Q
theorem prune_twice (l : List Nat) : ∀ env : Env, prune l (prune l env) = prune l env
  | [] => rfl
  | (u, a) :: r => by
    have e : prune l ((u, a) :: r) = match memN u l with
      | true => (u, a) :: prune l r
      | false => prune l r := rfl
    cases h : memN u l with
    | true =>
      rw [h] at e
      rw [e]
      show (match memN u l with
        | true => (u, a) :: prune l (prune l r)
        | false => prune l (prune l r)) = _
      rw [h, prune_twice l r]
    | false =>
      rw [h] at e
      rw [e]
      exact prune_twice l r
theorem xr_pcode (C : Ctx) (N : Nat) (L : Nat → List Nat) (n : Nat) (c : Code) (k : Nat) (env : Env) (σ : Store) (Q : Exit → Env → Store → Prop) : xr C N L n c k (prune (L k) env) σ Q = pcode C N L n c k (prune (L k) env) σ Q := by
  cases c <;> first | rfl | (show SLoop C N n _ (prune (L k) env) σ Q = SLoop C N n _ (prune (L k) (prune (L k) env)) σ Q; rw [prune_twice])
theorem pcodeX_real {C : Ctx} {N : Nat} {L : Nat → List Nat} {n : Nat} {S : List Nat} : ∀ (c : Code) (k : Nat) (env : Env) (σ : Store) (Q : Exit → Env → Store → Prop), pcodeX C N L n S (xr C N L n) c k env σ Q = pcode C N L n c k env σ Q
  | .skip, _, _, _, _ => rfl
  | .label _, _, _, _, _ => rfl
  | .region _ _ draw, _, _, _, _ => by cases draw <;> rfl
  | .seq a b, k, env, σ, Q => by
    show pcodeX C N L n S (xr C N L n) a (k + 1) env σ _ = pcode C N L n a (k + 1) env σ _
    rw [pcodeX_real a]
    congr 2
    funext env σ
    cases memN (k + 1 + csize a) S with
    | true => exact xr_pcode C N L n b _ env σ Q
    | false => exact pcodeX_real b _ _ _ _
  | .cond c t f, k, env, σ, Q => by
    show isB (ev C env c) _ = isB (ev C env c) _
    congr 1
    funext b
    rw [pcodeX_real t, pcodeX_real f]
  | .block id c, k, env, σ, Q => pcodeX_real c _ _ _ _
  | .loop c, k, env, σ, Q => rfl
  | .exit _, _, _, _, _ => rfl
  | .ret, _, _, _, _ => rfl
  | .goto _, _, _, _, _ => rfl
  | .scope _, _, _, _, _ => rfl
  | .rangeFunc .., _, _, _, _ => rfl
  | .refuse _, _, _, _, _ => rfl
def isLoop : Code → Bool
  | .loop _ => true
  | _ => false
theorem xr_in {C : Ctx} {N : Nat} {L : Nat → List Nat} {n : Nat} {S : List Nat} {c : Code} {k : Nat} {env : Env} {σ : Store} {Q : Exit → Env → Store → Prop} (hl : isLoop c = false) (h : pcodeX C N L n S (xr C N L n) c k env σ Q) : xr C N L n c k env σ Q := by
  rw [pcodeX_real] at h
  cases c <;> first | exact h | (cases hl; done)
theorem xr_loop {C : Ctx} {N : Nat} {L : Nat → List Nat} {n : Nat} {c c' : Code} (hc : c = .loop c') (k : Nat) (env : Env) (σ : Store) (Q : Exit → Env → Store → Prop) : xr C N L n c k env σ Q = SLoop C N n c' env σ Q := by subst hc; rfl
theorem xr_round {C : Ctx} (hC : CtxOK C) {N : Nat} {L : Nat → List Nat} {n : Nat} {S : List Nat} {c c' : Code} {k : Nat} {env : Env} {σ : Store} {Q : Exit → Env → Store → Prop} (hc : c = .loop c')
    (h : pcodeX C N L n S (xr C N L n) c' (k + 1) env σ (thenQ (fun env σ => xr C N L n c k (prune (L k) env) σ Q) Q)) : xr C N L n c k env σ Q := by
  rw [xr_loop hc]
  refine SLoop_unroll hC (L := L) (k := k) ?_
  rw [pcodeX_real] at h
  have e : (fun env σ => xr C N L n c k (prune (L k) env) σ Q) = (fun env σ => SLoop C N n c' (prune (L k) env) σ Q) := by
    funext env σ; exact xr_loop hc _ _ _ _
  rw [e] at h
  exact h
theorem xr_weak {C : Ctx} {N : Nat} {L : Nat → List Nat} {n : Nat} {c c' : Code} {k : Nat} {env env' : Env} {σ τ : Store} {Q : Exit → Env → Store → Prop} (hc : c = .loop c') (e : EWeak C n env σ env' τ) (h : xr C N L n c k env' τ Q) : xr C N L n c k env σ Q := by
  rw [xr_loop hc] at h ⊢
  exact SLoop.weak e h
theorem xr_enter {C : Ctx} (hC : CtxOK C) {f : FuncId} {x : FE} {args : List AV} {σ : Store} {R : AV → Store → Prop} {S : List Nat} (hf : FOK C f x) (hargs : Nat.ble args.length x.fn.ntmps = true)
    (h : pcodeX C x.fn.ntmps x.L σ.length S (xr C x.fn.ntmps x.L σ.length) x.c 0 (argsE 0 args) σ (finQ C x.fn σ.length R)) : SCalls C f args σ R :=
  SCalls.enter hC hf.1 hf.2.1 hf.2.2 hargs (by rw [pcodeX_real] at h; exact h)
end Go.Sv
