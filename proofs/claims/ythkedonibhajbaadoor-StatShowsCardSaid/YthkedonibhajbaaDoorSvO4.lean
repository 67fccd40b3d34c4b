/- What the rounds of a region that draws lay down. No program stands in this text. -/
import Derived.Test.YthkedonibhajbaaDoorSvO3
set_option linter.unusedVariables false
set_option linter.unusedSimpArgs false
namespace Go.Sv
open Go Go.RowKit

theorem loudBits_spec {C : Ctx} : ∀ (r : List Oper) (i j : Nat), hasBit (loudBits C i r) j = true ↔ ∃ k o, j = i + k ∧ r[k]? = some o ∧ opKind C o = 3
  | [], i, j => by simp [loudBits, hasBit_zero]
  | o :: r, i, j => by
    have ih := loudBits_spec (C := C) r (i + 1) j
    have step : (∃ k p, j = i + k ∧ (o :: r)[k]? = some p ∧ opKind C p = 3) ↔ (j = i ∧ opKind C o = 3) ∨ ∃ k p, j = i + 1 + k ∧ r[k]? = some p ∧ opKind C p = 3 := by
      constructor
      · rintro ⟨k, p, h1, h2, h3⟩
        cases k with
        | zero => simp at h2; subst h2; exact .inl ⟨by omega, h3⟩
        | succ k => exact .inr ⟨k, p, by omega, by simpa using h2, h3⟩
      · rintro (⟨h1, h2⟩ | ⟨k, p, h1, h2, h3⟩)
        · exact ⟨0, o, by omega, rfl, h2⟩
        · exact ⟨k + 1, p, by omega, by simpa using h2, h3⟩
    rw [step, ← ih]
    simp only [loudBits]
    rcases beq_cases (opKind C o) 3 with ⟨e, hb⟩ | ⟨e, hb⟩
    · rw [hb]
      simp only [hasBit_lor, hasBit_pow, Bool.or_eq_true, decide_eq_true_eq, e, and_true]
      constructor
      · rintro (h | h)
        · exact .inl h.symm
        · exact .inr h
      · rintro (h | h)
        · exact .inl h.symm
        · exact .inr h
    · rw [hb]
      simp [e]
theorem nextQuiet_spec {C : Ctx} {loud done : Nat} : ∀ (r : List Oper) (br : List Nat) (i : Nat), r.length = br.length → ∀ x, x ∈ nextQuiet C loud done i r br ↔
    ∃ k o, x = (i + k, o) ∧ r[k]? = some o ∧ hasBit done (i + k) = false ∧ opKind C o ≠ 3 ∧ ∀ j, hasBit (nthN br k) j = true → hasBit loud j = true → hasBit done j = true
  | [], [], i, _, x => by simp [nextQuiet]
  | [], _ :: _, i, h, x => by simp at h
  | _ :: _, [], i, h, x => by simp at h
  | o :: r, b :: br, i, hl, x => by
    have ih := nextQuiet_spec (C := C) (loud := loud) (done := done) r br (i + 1) (by simpa using hl) x
    have step : (∃ k p, x = (i + k, p) ∧ (o :: r)[k]? = some p ∧ hasBit done (i + k) = false ∧ opKind C p ≠ 3 ∧ ∀ j, hasBit (nthN (b :: br) k) j = true → hasBit loud j = true → hasBit done j = true) ↔
        (x = (i, o) ∧ hasBit done i = false ∧ opKind C o ≠ 3 ∧ ∀ j, hasBit b j = true → hasBit loud j = true → hasBit done j = true) ∨
        ∃ k p, x = (i + 1 + k, p) ∧ r[k]? = some p ∧ hasBit done (i + 1 + k) = false ∧ opKind C p ≠ 3 ∧ ∀ j, hasBit (nthN br k) j = true → hasBit loud j = true → hasBit done j = true := by
      constructor
      · rintro ⟨k, p, h1, h2, h3, h4, h5⟩
        cases k with
        | zero => simp at h2; subst h2; exact .inl ⟨h1, h3, h4, h5⟩
        | succ k => exact .inr ⟨k, p, by rw [h1]; congr 1; omega, by simpa using h2, by rw [show i + 1 + k = i + (k + 1) by omega]; exact h3, h4, h5⟩
      · rintro (⟨h1, h2, h3, h4⟩ | ⟨k, p, h1, h2, h3, h4, h5⟩)
        · exact ⟨0, o, h1, rfl, h2, h3, h4⟩
        · exact ⟨k + 1, p, by rw [h1]; congr 1; omega, by simpa using h2, by rw [show i + (k + 1) = i + 1 + k by omega]; exact h3, h4, h5⟩
    rw [step, ← ih]
    simp only [nextQuiet]
    split
    · rename_i hc
      simp only [Bool.and_eq_true, Bool.not_eq_true'] at hc
      rw [List.mem_cons]
      have h3 : opKind C o ≠ 3 := by
        rcases beq_cases (opKind C o) 3 with ⟨e, hb⟩ | ⟨e, hb⟩
        · rw [hb] at hc; simp at hc
        · exact e
      constructor
      · rintro (h | h)
        · exact .inl ⟨h, hc.1.1, h3, land_sub.1 hc.2⟩
        · exact .inr h
      · rintro (h | h)
        · exact .inl h.1
        · exact .inr h
    · rename_i hc
      constructor
      · exact fun h => .inr h
      · rintro (h | h)
        · exfalso
          simp only [Bool.and_eq_false_iff, Bool.not_eq_false'] at hc
          rcases hc with (hc | hc) | hc
          · rw [h.2.1] at hc; cases hc
          · exact h.2.2.1 (Nat.eq_of_beq_eq_true hc)
          · have := land_sub.2 h.2.2.2
            rw [this] at hc; cases hc
        · exact h
theorem nextQuiet_sorted {C : Ctx} {loud done : Nat} : ∀ (r : List Oper) (br : List Nat) (i : Nat), r.length = br.length → (nextQuiet C loud done i r br).Pairwise fun x y => x.1 < y.1
  | [], [], i, _ => by simp [nextQuiet]
  | [], _ :: _, i, h => by simp at h
  | _ :: _, [], i, h => by simp at h
  | o :: r, b :: br, i, hl => by
    have ih := nextQuiet_sorted (C := C) (loud := loud) (done := done) r br (i + 1) (by simpa using hl)
    simp only [nextQuiet]
    split
    · refine List.pairwise_cons.2 ⟨fun x hx => ?_, ih⟩
      obtain ⟨k, p, e, _⟩ := (nextQuiet_spec r br (i + 1) (by simpa using hl) x).1 hx
      rw [e]; simp only; omega
    · exact ih
theorem nextLoud_some {C : Ctx} {done : Nat} : ∀ {r : List Oper} {br : List Nat} {i l : Nat} {o : Oper} {b : Nat}, nextLoud C done i r br = some (l, o, b) →
    ∃ k, l = i + k ∧ r[k]? = some o ∧ b = nthN br k ∧ hasBit done l = false ∧ opKind C o = 3 ∧ ∀ k', k' < k → ∀ p, r[k']? = some p → opKind C p = 3 → hasBit done (i + k') = true
  | [], br, i, l, o, b, h => by simp [nextLoud] at h
  | q :: r, [], i, l, o, b, h => by simp [nextLoud] at h
  | q :: r, c :: br, i, l, o, b, h => by
    simp only [nextLoud] at h
    split at h
    · rename_i hc
      cases h
      simp only [Bool.and_eq_true, Bool.not_eq_true'] at hc
      exact ⟨0, rfl, rfl, rfl, hc.1, Nat.eq_of_beq_eq_true hc.2, fun k' hk' => by omega⟩
    · rename_i hc
      obtain ⟨k, h1, h2, h3, h4, h5, h6⟩ := nextLoud_some h
      refine ⟨k + 1, by omega, by simpa using h2, h3, h4, h5, fun k' hk' p hp hk => ?_⟩
      cases k' with
      | zero =>
        simp at hp; subst hp
        rw [hk] at hc
        simp at hc
        exact hc
      | succ k' =>
        have := h6 k' (by omega) p (by simpa using hp) hk
        rw [show i + (k' + 1) = i + 1 + k' by omega]
        exact this
theorem nextLoud_none {C : Ctx} {done : Nat} : ∀ {r : List Oper} {br : List Nat} {i : Nat}, r.length = br.length → nextLoud C done i r br = none → ∀ (k : Nat) p, r[k]? = some p → opKind C p = 3 → hasBit done (i + k) = true
  | [], br, i, _, h, k, p, hp, _ => by simp at hp
  | q :: r, [], i, hl, h, k, p, hp, _ => by simp at hl
  | q :: r, c :: br, i, hl, h, k, p, hp, hk => by
    simp only [nextLoud] at h
    split at h
    · cases h
    · rename_i hc
      cases k with
      | zero =>
        simp at hp; subst hp
        rw [hk] at hc
        simp at hc
        exact hc
      | succ k =>
        have := nextLoud_none (by simpa using hl) h k p (by simpa using hp) hk
        rw [show i + (k + 1) = i + 1 + k by omega]
        exact this
theorem bitsOf_spec : ∀ (l : List (Nat × Oper)) (j : Nat), hasBit (bitsOf l) j = true ↔ ∃ o, (j, o) ∈ l
  | [], j => by simp [bitsOf, hasBit_zero]
  | (i, o) :: r, j => by
    have ih := bitsOf_spec r j
    simp only [bitsOf, hasBit_lor, hasBit_pow, Bool.or_eq_true, decide_eq_true_eq, List.mem_cons, Prod.mk.injEq]
    rw [ih]
    constructor
    · rintro (h | ⟨p, h⟩)
      · exact ⟨o, .inl ⟨h.symm, rfl⟩⟩
      · exact ⟨p, .inr h⟩
    · rintro ⟨p, h | h⟩
      · exact .inl h.1.symm
      · exact .inr ⟨p, h⟩

/-! ### An operation answers one thing -/
def Det (A : (AV → Store → Prop) → Prop) : Prop := ∀ k, A k → ∃ v σ, k v σ ∧ ∀ k' : AV → Store → Prop, k' v σ → A k'
theorem Det.here (v : AV) (σ : Store) : Det fun k => k v σ := fun k h => ⟨v, σ, h, fun _ h => h⟩
theorem Det.opt {α : Type} {x : Option α} {F : α → (AV → Store → Prop) → Prop} (h : ∀ a, Det (F a)) : Det fun k => opt x fun a => F a k := by
  intro k hk
  cases x with
  | none => exact hk.elim
  | some a => exact h a k hk
theorem Det.opt2 {x : Option (AV × Store)} : Det fun k => opt2 x k := by
  intro k hk
  cases x with
  | none => exact hk.elim
  | some p => exact ⟨p.1, p.2, hk, fun _ h => h⟩
theorem Det.isB {a : AV} {F : Bool → (AV → Store → Prop) → Prop} (h : ∀ a, Det (F a)) : Det fun k => isB a fun b => F b k := by
  intro k hk
  obtain ⟨b, rfl, hk⟩ := isB_some hk
  exact h b k hk
theorem Det.isI {kd : IntKind} {a : AV} {F : Int → (AV → Store → Prop) → Prop} (h : ∀ a, Det (F a)) : Det fun k => isI kd a fun b => F b k := by
  intro k hk
  obtain ⟨b, rfl, hk2⟩ := isI_some hk
  obtain ⟨v, σ, h1, h2⟩ := h b k hk2
  refine ⟨v, σ, h1, fun k' hk' => ?_⟩
  show (if kd = kd then F b k' else False)
  rw [if_pos rfl]; exact h2 k' hk'
theorem Det.isTup {a : AV} {F : List AV → (AV → Store → Prop) → Prop} (h : ∀ a, Det (F a)) : Det fun k => isTup a fun b => F b k := by
  intro k hk
  obtain ⟨b, rfl, hk⟩ := isTup_some hk
  exact h b k hk
theorem Det.none : Det fun _ => False := fun _ h => h.elim
theorem Det.and {p : Prop} {A : (AV → Store → Prop) → Prop} (h : Det A) : Det fun k => p ∧ A k := by
  intro k hk
  obtain ⟨v, σ, h1, h2⟩ := h k hk.2
  exact ⟨v, σ, h1, fun k' hk' => ⟨hk.1, h2 k' hk'⟩⟩
theorem Det.binK {tab : TypeId → Option TI} {t : TypeId} {lit : Bool} {op : BinOp} {x y : AV} {σ : Store} : Det fun k => aBinK tab t lit op x y fun v => k v σ := by
  unfold aBinK
  split
  · cases op <;> simp only <;> first
      | exact Det.and (Det.here _ _)
      | (split <;> first | exact Det.here _ _ | exact Det.and (Det.here _ _) | exact Det.none)
  · cases op <;> simp only <;> first | exact Det.and (Det.here _ _) | exact Det.here _ _ | exact Det.none
  · unfold aEqK
    cases op <;> simp only <;> first | exact Det.opt fun _ => Det.opt fun _ => Det.here _ _ | exact Det.none
theorem aopK_det {C : Ctx} {o : Oper} {e : Operand → AV} {σ : Store} : Det fun k => aopK C o e σ k := by
  unfold aopK
  split
  case h_1 => exact Det.here _ _
  case h_2 => exact Det.here _ _
  case h_3 => exact Det.isB fun b => by cases b <;> exact Det.here _ _
  case h_4 => exact Det.opt fun _ => Det.here _ _
  case h_5 => exact Det.and (Det.here _ _)
  case h_6 => exact Det.opt fun _ => Det.opt fun _ => Det.here _ _
  case h_7 => exact Det.opt fun ti => by
                split
                · exact Det.opt fun _ => Det.opt2
                · exact Det.none
  case h_8 => exact Det.opt fun _ => Det.opt fun _ => Det.here _ _
  case h_9 => exact Det.opt fun _ => Det.opt fun _ => Det.here _ _
  case h_10 => exact Det.opt fun _ => Det.here _ _
  case h_11 => exact Det.binK
  case h_12 => exact Det.opt fun _ => Det.here _ _
  case h_13 => exact Det.opt fun _ => Det.opt fun _ => Det.opt2
  case h_14 => exact Det.opt fun ti => by
                split
                · exact Det.none
                · exact Det.opt fun _ => Det.here _ _
  case h_15 => exact Det.here _ _
  case h_16 => exact Det.opt fun ti => by
                split
                · exact Det.opt fun _ => Det.isI fun _ => Det.isI fun _ => Det.opt2
                · exact Det.none
  case h_17 => exact Det.opt fun _ => Det.opt fun _ => Det.here _ _
  case h_18 => exact Det.opt fun _ => Det.opt fun _ => Det.here _ _
  case h_19 => exact Det.opt fun _ => Det.opt fun _ => Det.here _ _
  case h_20 => exact Det.opt fun ti => by
                split
                · exact Det.opt fun _ => Det.here _ _
                · exact Det.none
  case h_21 => exact Det.opt fun ti => by
                split
                · exact Det.opt fun _ => Det.here _ _
                · exact Det.none
  case h_22 => exact Det.opt fun _ => Det.here _ _
  case h_23 => exact Det.isTup fun _ => Det.opt fun _ => Det.here _ _
  case h_24 => exact Det.opt fun _ => Det.opt fun _ => Det.opt fun _ => Det.opt fun _ => Det.here _ _
  case h_25 =>
    split
    · exact Det.opt fun _ => Det.opt fun _ => by
        split
        · exact Det.none
        · split
          · exact Det.opt fun _ => Det.opt2
          · exact Det.none
    · exact Det.none
  case h_26 =>
    split
    · exact Det.opt fun _ => by
        split
        · exact Det.opt fun _ => Det.opt2
        · exact Det.none
    · exact Det.none
  case h_27 =>
    split
    · exact Det.opt fun _ => Det.here _ _
    · exact Det.none
  case h_28 =>
    split
    · exact Det.opt fun _ => Det.here _ _
    · exact Det.none
  case h_29 => exact Det.none

/-! ### What an operation will come to -/
theorem wantedA_congr {ops : List Oper} {env env' : Env} {o : Oper} (h : ∀ t, t ∈ looks ops o → getE env t = getE env' t) : wantedA ops env o = wantedA ops env' o := by
  unfold wantedA
  split
  · rfl
  · rename_i j want hg
    cases hj : ops[j]? with
    | none => rfl
    | some oj =>
      cases hd : oj.dst with
      | none => simp only [hd]
      | some d =>
        have : d ∈ looks ops o := by
          unfold looks guardTmp
          simp [hg, hj, hd]
        simp only [hd]
        rw [h d this]
theorem ev_same {C : Ctx} {ops : List Oper} {env env' : Env} {o : Oper} (h : ∀ t, t ∈ looks ops o → getE env t = getE env' t) : Same (opTmps o.op) (ev C env) (ev C env') :=
  ⟨fun t ht => h t (by unfold looks; exact List.mem_append_left _ ht), fun x hx => by cases x <;> first | rfl | simp [tmpOf] at hx⟩
theorem allocObj_congr {C : Ctx} {o : Oper} {e e' : Operand → AV} (h : Same (opTmps o.op) e e') : allocObj C o e = allocObj C o e' := by
  unfold allocObj
  split
  · rfl
  · rename_i t x ho
    rw [h.op (x := x) (fun t ht => by rw [ho]; exact ht)]
  · rfl
/-- What is known of a quiet operation that is reckoned and need not be done yet. -/
inductive Done (C : Ctx) (N : Nat) (ops : List Oper) (o : Oper) (env : Env) (σ S : Store) (p : Nat) : Prop
  | quiet (hk : opKind C o = 0 ∨ opKind C o = 1) (hw : wantedA ops env o = some true) (hd : ∀ d, o.dst = some d → d < N) (h : aopK C o (ev C env) σ fun v _ => ∀ d, o.dst = some d → v = getE env d)
  | skip (hw : wantedA ops env o = some false) (h : ∀ d, o.dst = some d → d < N ∧ getE env d = .tup [])
  | lays (hk : opKind C o = 2) (hw : wantedA ops env o = some true) (ob : SObj) (hob : allocObj C o (ev C env) = some ob) (hS : S[p]? = some ob) (h : ∀ d, o.dst = some d → d < N ∧ getE env d = .ptr (σ.length + p) 0)
theorem Done.congr {C : Ctx} {N : Nat} {ops : List Oper} {o : Oper} {env env' : Env} {σ S S' : Store} {p : Nat} (h : Done C N ops o env σ S p) (hl : ∀ t, t ∈ looks ops o → getE env t = getE env' t) (hd : ∀ d, o.dst = some d → getE env d = getE env' d)
    (hS : ∀ ob, S[p]? = some ob → S'[p]? = some ob) : Done C N ops o env' σ S' p := by
  have hw := wantedA_congr hl
  cases h with
  | quiet hk hw' hdn h =>
    refine .quiet hk (hw ▸ hw') hdn ?_
    have := aopK_congr (ev_same hl) h
    exact aopK_mono this fun v σ' hv _ d e => by rw [← hd d e]; exact hv d e
  | skip hw' h => exact .skip (hw ▸ hw') fun d e => ⟨(h d e).1, by rw [← hd d e]; exact (h d e).2⟩
  | lays hk hw' ob hob hS' h => exact .lays hk (hw ▸ hw') ob (by rw [← allocObj_congr (ev_same hl)]; exact hob) (hS ob hS') fun d e => ⟨(h d e).1, by rw [← hd d e]; exact (h d e).2⟩
theorem Rg.lt {C : Ctx} {ops : List Oper} {bs : List Nat} (hR : Rg C ops bs) {i : Nat} {o : Oper} (ho : ops[i]? = some o) {j : Nat} (hj : hasBit (nthN bs i) j = true) : j < i := by
  induction i using Nat.strongRecOn generalizing o j with
  | _ i ih =>
    obtain ⟨e, he, hb, h⟩ := hR.bef i o ho j hj
    have hlt := hR.edges i o ho e he hb
    rcases h with rfl | h
    · exact hlt
    · have hlen : i < ops.length := (List.getElem?_eq_some_iff.1 ho).1
      have := ih e.on hlt (List.getElem?_eq_getElem (by omega)) h
      omega
theorem getE_put_ne {env : Env} {dst : Option Tmp} {v : AV} {env1 : Env} (h : (dst = none ∧ env1 = env) ∨ ∃ d, dst = some d ∧ env1 = putE env d v) {s : Nat} (hs : dst ≠ some s) : getE env1 s = getE env s := by
  rcases h with ⟨_, rfl⟩ | ⟨d, rfl, rfl⟩
  · rfl
  · rw [getE_putE, if_neg]
    intro e; exact hs (by rw [e])
theorem putK_env {N : Nat} {env : Env} {dst : Option Tmp} {v : AV} {k : Env → Prop} (h : putK N env dst v k) : ∃ env1, k env1 ∧ ((dst = none ∧ env1 = env) ∨ ∃ d, dst = some d ∧ env1 = putE env d v) ∧ ∀ d, dst = some d → d < N ∧ getE env1 d = v := by
  rcases putK_elim h with ⟨rfl, h⟩ | ⟨d, rfl, hd, h⟩
  · exact ⟨env, h, .inl ⟨rfl, rfl⟩, fun d e => by cases e⟩
  · exact ⟨_, h, .inr ⟨d, rfl, rfl⟩, fun d' e => by cases e; exact ⟨hd, by rw [getE_putE, if_pos rfl]⟩⟩
def Lays (C : Ctx) (ops : List Oper) (env : Env) (o : Oper) : Prop := opKind C o = 2 ∧ wantedA ops env o = some true
theorem pquiet_open {C : Ctx} {N : Nat} {ops : List Oper} {bs : List Nat} {σ : Store} (hR : Rg C ops bs) : ∀ (l : List (Nat × Oper)) (env : Env) (S : List SObj) (k : Env → List SObj → Prop), pquiet C N ops σ l env S k →
    (∀ x ∈ l, ops[x.1]? = some x.2 ∧ opKind C x.2 ≠ 3) → l.Pairwise (fun x y => x.1 < y.1) →
    ∃ (env' : Env) (S' : List SObj) (pos : Nat → Nat), k env' S' ∧ (∀ s, (∀ x ∈ l, x.2.dst ≠ some s) → getE env' s = getE env s) ∧ (∀ (q : Nat) ob, S[q]? = some ob → S'[q]? = some ob) ∧ S.length ≤ S'.length ∧
      (∀ x ∈ l, Done C N ops x.2 env' σ S' (pos x.1)) ∧ (∀ x ∈ l, Lays C ops env' x.2 → S.length ≤ pos x.1 ∧ pos x.1 < S'.length) ∧
      (∀ x ∈ l, ∀ y ∈ l, Lays C ops env' x.2 → Lays C ops env' y.2 → pos x.1 = pos y.1 → x.1 = y.1) ∧
      ∀ q, S.length ≤ q → q < S'.length → ∃ x ∈ l, Lays C ops env' x.2 ∧ pos x.1 = q
  | [], env, S, k, h, _, _ => ⟨env, S, fun _ => 0, h, fun _ _ => rfl, fun _ _ h => h, Nat.le_refl _, by simp, by simp, by simp, fun q h1 h2 => by omega⟩
  | (i, o) :: r, env, S, k, h, hl, hs => by
    have ho := (hl (i, o) (by simp)).1
    have hk3 := (hl (i, o) (by simp)).2
    simp only at ho hk3
    have hlr : ∀ x ∈ r, ops[x.1]? = some x.2 ∧ opKind C x.2 ≠ 3 := fun x hx => hl x (List.mem_cons_of_mem _ hx)
    have hsr := (List.pairwise_cons.1 hs).2
    have hgt : ∀ y ∈ r, i < y.1 := (List.pairwise_cons.1 hs).1
    -- what comes after one operation
    have after : ∀ (env1 : Env) (S1 : List SObj) (v : AV), pquiet C N ops σ r env1 S1 k → ((o.dst = none ∧ env1 = env) ∨ ∃ d, o.dst = some d ∧ env1 = putE env d v) → (S1 = S ∨ ∃ ob, S1 = S ++ [ob]) →
        (∀ (env' : Env) (S' : List SObj), (∀ t, t ∈ looks ops o → getE env t = getE env' t) → (∀ d, o.dst = some d → getE env1 d = getE env' d) → (∀ (q : Nat) ob, S1[q]? = some ob → S'[q]? = some ob) → Done C N ops o env' σ S' S.length ∧ (Lays C ops env' o → S1 ≠ S) ∧ (S1 ≠ S → Lays C ops env' o)) →
        ∃ (env' : Env) (S' : List SObj) (pos : Nat → Nat), k env' S' ∧ (∀ s, (∀ x ∈ (i, o) :: r, x.2.dst ≠ some s) → getE env' s = getE env s) ∧ (∀ (q : Nat) ob, S[q]? = some ob → S'[q]? = some ob) ∧ S.length ≤ S'.length ∧
          (∀ x ∈ (i, o) :: r, Done C N ops x.2 env' σ S' (pos x.1)) ∧ (∀ x ∈ (i, o) :: r, Lays C ops env' x.2 → S.length ≤ pos x.1 ∧ pos x.1 < S'.length) ∧
          (∀ x ∈ (i, o) :: r, ∀ y ∈ (i, o) :: r, Lays C ops env' x.2 → Lays C ops env' y.2 → pos x.1 = pos y.1 → x.1 = y.1) ∧
          ∀ q, S.length ≤ q → q < S'.length → ∃ x ∈ (i, o) :: r, Lays C ops env' x.2 ∧ pos x.1 = q := by
      intro env1 S1 v h1 hput hS1 hdone
      obtain ⟨env', S', pos, g1, g2, g3, g4, g5, g6, g7, g8⟩ := pquiet_open hR r env1 S1 k h1 hlr hsr
      have hS1le : S.length ≤ S1.length := by rcases hS1 with rfl | ⟨ob, rfl⟩ <;> simp
      have hS1pre : ∀ (q : Nat) ob, S[q]? = some ob → S1[q]? = some ob := by
        intro q ob hq
        rcases hS1 with rfl | ⟨ob', rfl⟩
        · exact hq
        · rw [List.getElem?_append_left (List.getElem?_eq_some_iff.1 hq).1]; exact hq
      have hslot : ∀ s, (∀ x ∈ (i, o) :: r, x.2.dst ≠ some s) → getE env' s = getE env s := by
        intro s hs'
        rw [g2 s (fun x hx => hs' x (List.mem_cons_of_mem _ hx))]
        exact getE_put_ne hput (hs' (i, o) (by simp))
      have hlooks : ∀ t, t ∈ looks ops o → getE env t = getE env' t := by
        intro t ht
        refine (hslot t fun x hx e => ?_).symm
        rcases List.mem_cons.1 hx with rfl | hx
        · exact hR.self i o t ho e ht
        · have hlt := hgt x hx
          rcases hR.reads i o x.1 x.2 t ho (hlr x hx).1 (by omega) e ht with h1 | h1
          · have := hR.lt ho h1
            omega
          · exact (hlr x hx).2 h1.2
      have hdst : ∀ d, o.dst = some d → getE env1 d = getE env' d := by
        intro d hd
        refine (g2 d fun x hx e => ?_).symm
        have := hR.once i o x.1 x.2 d ho (hlr x hx).1 hd e
        have hlt := hgt x hx
        omega
      obtain ⟨hd1, hd2, hd3⟩ := hdone env' S' hlooks hdst g3
      obtain ⟨pos2, p1, p2⟩ : ∃ pos2 : Nat → Nat, pos2 i = S.length ∧ ∀ j, j ≠ i → pos2 j = pos j := ⟨fun j => if j = i then S.length else pos j, by simp, fun j h => by simp [h]⟩
      refine ⟨env', S', pos2, g1, hslot, fun q ob hq => g3 q ob (hS1pre q ob hq), Nat.le_trans hS1le g4, fun x hx => ?_, fun x hx hlay => ?_, fun x hx y hy hlx hly e => ?_, fun q hq1 hq2 => ?_⟩
      · rcases List.mem_cons.1 hx with rfl | hx
        · rw [p1]; exact hd1
        · have hlt := hgt x hx
          rw [p2 _ (by omega)]
          exact g5 x hx
      · rcases List.mem_cons.1 hx with rfl | hx
        · rw [p1]
          have hne := hd2 hlay
          rcases hS1 with rfl | ⟨ob, rfl⟩
          · exact absurd rfl hne
          · simp at g4; exact ⟨Nat.le_refl _, by omega⟩
        · have hlt := hgt x hx
          rw [p2 _ (by omega)]
          have := g6 x hx hlay
          omega
      · rcases List.mem_cons.1 hx with rfl | hx <;> rcases List.mem_cons.1 hy with rfl | hy
        · rfl
        · exfalso
          have hlt := hgt y hy
          rw [p1, p2 _ (by omega)] at e
          have hne := hd2 hlx
          have := g6 y hy hly
          rcases hS1 with rfl | ⟨ob, rfl⟩
          · exact hne rfl
          · simp at this; omega
        · exfalso
          have hlt := hgt x hx
          rw [p1, p2 _ (by omega)] at e
          have hne := hd2 hly
          have := g6 x hx hlx
          rcases hS1 with rfl | ⟨ob, rfl⟩
          · exact hne rfl
          · simp at this; omega
        · have h1 := hgt x hx
          have h2 := hgt y hy
          rw [p2 _ (by omega), p2 _ (by omega)] at e
          exact g7 x hx y hy hlx hly e
      · by_cases hq : S1.length ≤ q
        · obtain ⟨x, hx, hlay, hp⟩ := g8 q hq hq2
          have hlt := hgt x hx
          exact ⟨x, List.mem_cons_of_mem _ hx, hlay, by rw [p2 _ (by omega)]; exact hp⟩
        · rcases hS1 with rfl | ⟨ob, rfl⟩
          · omega
          · simp at hq
            refine ⟨(i, o), by simp, hd3 (by simp), ?_⟩
            rw [p1]; omega
    simp only [pquiet] at h
    split at h
    · rename_i hw
      split at h
      · rename_i hk2
        have hk2' : opKind C o = 2 := Nat.eq_of_beq_eq_true hk2
        split at h
        · rename_i hg
          obtain ⟨ob, hob, h⟩ := opt_some h
          obtain ⟨env1, h1, hput, hdn⟩ := putK_env h
          refine after env1 (S ++ [ob]) _ h1 hput (.inr ⟨ob, rfl⟩) fun env' S' hlk hdst hS => ⟨?_, fun _ => by simp, fun _ => ⟨hk2', by rw [← wantedA_congr hlk]; exact hw⟩⟩
          refine .lays hk2' (by rw [← wantedA_congr hlk]; exact hw) ob (by rw [← allocObj_congr (ev_same hlk)]; exact hob) (hS _ _ (by simp)) fun d hd => ⟨(hdn d hd).1, ?_⟩
          rw [← hdst d hd, (hdn d hd).2]
        · exact h.elim
      · rename_i hk2
        have hkk : opKind C o = 0 ∨ opKind C o = 1 := by
          have h2 : opKind C o ≠ 2 := by
            intro e; rw [e] at hk2; simp at hk2
          have h4 : opKind C o ≤ 3 := by
            unfold opKind
            split <;> try omega
            split
            · rename_i ti _
              cases ti.td <;> simp [convKind]
            · omega
          omega
        -- the value
        have hval : ∃ v, (aopK C o (ev C env) σ fun v' _ => v' = v) ∧ putK N env o.dst v (fun env => pquiet C N ops σ r env S k) := by
          obtain ⟨v, σ', hk', hall⟩ := aopK_det _ h
          exact ⟨v, hall _ rfl, splitB_elim (shaped_elim hk')⟩
        obtain ⟨v, hv, h⟩ := hval
        obtain ⟨env1, h1, hput, hdn⟩ := putK_env h
        refine after env1 S _ h1 hput (.inl rfl) fun env' S' hlk hdst hS => ⟨?_, fun hlay => ?_, fun hne => absurd rfl hne⟩
        · refine .quiet hkk (by rw [← wantedA_congr hlk]; exact hw) (fun d hd => (hdn d hd).1) ?_
          refine aopK_mono (aopK_congr (ev_same hlk) hv) fun v' σ' e _ d hd => ?_
          rw [e, ← hdst d hd, (hdn d hd).2]
        · have := hlay.1
          omega
    · rename_i hw
      obtain ⟨env1, h1, hput, hdn⟩ := putK_env h
      refine after env1 S _ h1 hput (.inl rfl) fun env' S' hlk hdst hS => ⟨.skip (by rw [← wantedA_congr hlk]; exact hw) fun d hd => ⟨(hdn d hd).1, by rw [← hdst d hd, (hdn d hd).2]⟩, fun hlay => ?_, fun hne => absurd rfl hne⟩
      have := hlay.2
      rw [← wantedA_congr hlk, hw] at this
      cases this
    · exact h.elim

end Go.Sv
