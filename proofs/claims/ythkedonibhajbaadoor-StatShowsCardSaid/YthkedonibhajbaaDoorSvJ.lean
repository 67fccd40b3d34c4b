/- What the executor says of numbers, comparisons and interfaces is true of the model; then of every plain operation. No program stands in this text. -/
import Derived.Test.YthkedonibhajbaaDoorSvI
import Derived.Laws.Strings
set_option linter.unusedVariables false
set_option linter.unusedSimpArgs false
namespace Go.Sv
open Go Go.RowKit

theorem eqGuard_int {P : Program} {w : World} (op : BinOp) (t : TypeId) (x y : Operand) {k k' : IntKind} {a b : Int} : (eqGuard op t x y (.int k a) (.int k' b)).run P w = .ok () w := by
  unfold eqGuard
  split <;> rfl
theorem eqGuard_str {P : Program} {w : World} (op : BinOp) (t : TypeId) (x y : Operand) {a b : ByteArray} : (eqGuard op t x y (.string a) (.string b)).run P w = .ok () w := by
  unfold eqGuard
  split <;> rfl
theorem binInt_sound {C : Ctx} {m : Mp} {K : KS} {w : World} {t : TypeId} {lit : Bool} {op : BinOp} {kd kd' : IntKind} {a b : Int} {k : AV → Prop} (h : aBinK C.tab t lit op (.pv (.int kd a)) (.pv (.int kd' b)) k) :
    ∃ r, k r ∧ ∃ v, (binOp op t (.int kd a) (.int kd' b)).run C.P w = .ok v w ∧ ARep m K r v := by
  unfold aBinK at h
  cases op
  case shl =>
    obtain ⟨h0, h⟩ := h
    refine ⟨_, h, _, ?_, .pv _ _ (.int _ _)⟩
    have : ¬ b < 0 := by omega
    simp [binOp, Op.shift, this]
  case shr =>
    obtain ⟨h0, h⟩ := h
    refine ⟨_, h, _, ?_, .pv _ _ (.int _ _)⟩
    have : ¬ b < 0 := by omega
    simp [binOp, Op.shift, this]
  case quo =>
    simp only at h
    split at h
    · rename_i e
      obtain ⟨h0, h⟩ := h
      exact ⟨_, h, _, by simp [binOp, Op.intDiv, e, h0], .pv _ _ (.int _ _)⟩
    · cases h
  case rem =>
    simp only at h
    split at h
    · rename_i e
      obtain ⟨h0, h⟩ := h
      exact ⟨_, h, _, by simp [binOp, Op.intDiv, e, h0], .pv _ _ (.int _ _)⟩
    · cases h
  all_goals try simp only at h
  all_goals
    split at h
    · rename_i e
      first
        | exact absurd h id
        | exact ⟨_, h, _, by simp [binOp, Op.intArith, Op.intBits, Op.intCmp, e]; try rfl, .pv _ _ (.int _ _)⟩
        | exact ⟨_, h, _, by simp [binOp, Op.intArith, Op.intBits, Op.intCmp, e]; try rfl, .pv _ _ (.bool _)⟩
    · cases h
theorem binStr_sound {C : Ctx} {m : Mp} {K : KS} {w : World} {t : TypeId} {lit : Bool} {op : BinOp} {a b : List UInt8} {k : AV → Prop} (h : aBinK C.tab t lit op (.pv (.str a)) (.pv (.str b)) k) :
    ∃ r, k r ∧ ∃ v, (binOp op t (.string ⟨a.toArray⟩) (.string ⟨b.toArray⟩)).run C.P w = .ok v w ∧ ARep m K r v := by
  unfold aBinK at h
  cases op
  case add =>
    obtain ⟨h0, h⟩ := h
    refine ⟨_, h, .string ⟨(a ++ b).toArray⟩, ?_, .pv _ _ (.str _)⟩
    have h1 : ¬ (9223372036854775807 < (a.length : Int) + b.length) := by omega
    have e : (⟨a.toArray⟩ : ByteArray) ++ ⟨b.toArray⟩ = ⟨(a ++ b).toArray⟩ := by
      have : ((⟨a.toArray⟩ : ByteArray) ++ ⟨b.toArray⟩).data = (a ++ b).toArray := by simp [ByteArray.data_append]
      cases hx : (⟨a.toArray⟩ : ByteArray) ++ ⟨b.toArray⟩ with
      | mk d => rw [hx] at this; simp only at this; rw [this]
    simp [binOp, Op.stringOp, ByteArray.size, IntKind.max, IntKind.bits, IntKind.signed, h1, e]
  all_goals try simp only at h
  all_goals exact ⟨_, h, _, by simp [binOp, Op.stringOp, Go.ByteArray.toList_mk]; try rfl, .pv _ _ (.bool _)⟩
theorem opt_some {α : Type} {x : Option α} {k : α → Prop} (h : opt x k) : ∃ v, x = some v ∧ k v := by
  cases x with
  | none => exact h.elim
  | some v => exact ⟨v, rfl, h⟩
theorem opt2_some {x : Option (AV × Store)} {k : AV → Store → Prop} (h : opt2 x k) : ∃ v σ, x = some (v, σ) ∧ k v σ := by
  cases x with
  | none => exact h.elim
  | some p => exact ⟨p.1, p.2, rfl, h⟩
theorem TIok.bool {P : Program} {t : TypeId} {ti : TI} (h : TIok P t ti) (hd : ti.td = .bool) : P.underlying t = some .bool := by
  obtain ⟨d, hu, e⟩ := h.under
  rw [hd] at e
  cases d <;> simp [TD.of] at e
  exact hu
theorem TIok.ptr {P : Program} {t el : TypeId} {ti : TI} (h : TIok P t ti) (hd : ti.td = .ptr el) : P.underlying t = some (.pointer el) := by
  obtain ⟨d, hu, e⟩ := h.under
  rw [hd] at e
  cases d <;> simp [TD.of] at e
  subst e
  exact hu
theorem TIok.iface {P : Program} {t : TypeId} {n : Nat} {ti : TI} (h : TIok P t ti) (hd : ti.td = .iface n) : ∃ ms, P.underlying t = some (.interface ms) := by
  obtain ⟨d, hu, e⟩ := h.under
  rw [hd] at e
  cases d <;> simp [TD.of] at e
  exact ⟨_, hu⟩
theorem TIok.func {P : Program} {t : TypeId} {ti : TI} (h : TIok P t ti) (hd : ti.td = .func) : ∃ a b c, P.underlying t = some (.func a b c) := by
  obtain ⟨d, hu, e⟩ := h.under
  rw [hd] at e
  cases d <;> simp [TD.of] at e
  exact ⟨_, _, _, hu⟩
theorem isPtrA_rep {m : Mp} {K : KS} {a : AV} {v : Value} {b : Bool} (h : isPtrA a = some b) (hr : ARep m K a v) : v = .pointer none ∧ b = false ∨ ∃ ad, v = .pointer (some ad) ∧ b = true := by
  cases hr with
  | pv p v hp =>
    cases hp with
    | raw v hv =>
      unfold isPtrA at h
      split at h
      · rename_i e; cases e; cases h; exact .inl ⟨rfl, rfl⟩
      all_goals first | (cases h; done) | (rename_i e; cases e; done)
    | _ => simp [isPtrA] at h
  | ptr => simp [isPtrA] at h; exact .inr ⟨_, rfl, h⟩
  | eptr => simp [isPtrA] at h; exact .inr ⟨_, rfl, h⟩
  | ro => simp [isPtrA] at h; exact .inr ⟨_, rfl, h⟩
  | _ => simp [isPtrA] at h
theorem isIfA_rep {m : Mp} {K : KS} {a : AV} {v : Value} {b : Option TypeId} (h : isIfA a = some b) (hr : ARep m K a v) : v = .nilIface ∧ b = none ∨ ∃ t u, v = .iface t u ∧ b = some t := by
  cases hr with
  | pv p v hp =>
    cases hp with
    | raw v hv =>
      unfold isIfA at h
      split at h
      · rename_i e; cases e; cases h; exact .inl ⟨rfl, rfl⟩
      all_goals first | (cases h; done) | (rename_i e; cases e; done)
    | iface t p v hp => simp [isIfA] at h; exact .inr ⟨_, _, rfl, h.symm⟩
    | _ => simp [isIfA] at h
  | iface => simp [isIfA] at h; exact .inr ⟨_, _, rfl, h.symm⟩
  | _ => simp [isIfA] at h
theorem isFnA_rep {m : Mp} {K : KS} {a : AV} {v : Value} {b : Bool} (h : isFnA a = some b) (hr : ARep m K a v) : v = .nilFunc ∧ b = false ∨ ∃ f x y, v = .func f x y ∧ b = true := by
  cases hr with
  | pv p v hp =>
    cases hp with
    | raw v hv =>
      unfold isFnA at h
      split at h
      · rename_i e; cases e; cases h; exact .inl ⟨rfl, rfl⟩
      · rename_i e; cases e; cases h; exact .inr ⟨_, _, _, rfl, rfl⟩
      all_goals first | (cases h; done) | (rename_i e; cases e; done)
    | _ => simp [isFnA] at h
  | func => simp [isFnA] at h; exact .inr ⟨_, _, _, rfl, h⟩
  | _ => simp [isFnA] at h
theorem isSlA_rep {m : Mp} {K : KS} {a : AV} {v : Value} {b : Bool} (h : isSlA a = some b) (hr : ARep m K a v) : v = .slice none 0 0 ∧ b = false ∨ ∃ ad l c, v = .slice (some ad) l c ∧ b = true := by
  cases hr with
  | pv p v hp =>
    cases hp with
    | sl xs es b o c vs hc he hl hr hk =>
      cases xs with
      | nil => simp [isSlA] at h
      | cons y r => simp [isSlA] at h; exact .inr ⟨_, _, _, rfl, h⟩
    | _ => simp [isSlA] at h
  | nilsl => simp [isSlA] at h; exact .inl ⟨rfl, h⟩
  | _ => simp [isSlA] at h
theorem bothO_some {x y : Option Bool} {b : Bool} (h : bothO x y = some b) : (x = some false ∧ y = some false ∧ b = true) ∨ (x = some true ∧ y = some false ∧ b = false) ∨ (x = some false ∧ y = some true ∧ b = false) := by
  unfold bothO at h
  split at h
  · cases h; exact .inl ⟨rfl, rfl, rfl⟩
  · cases h; exact .inr (.inl ⟨rfl, rfl, rfl⟩)
  · cases h; exact .inr (.inr ⟨rfl, rfl, rfl⟩)
  · cases h
theorem aEq_sound {C : Ctx} {m : Mp} {K : KS} {w : World} {t : TypeId} {ti : TI} (hT : TIok C.P t ti) {xo yo : Operand} {x y : AV} {xv yv : Value} (hx : ARep m K x xv) (hy : ARep m K y yv) {b : Bool} (h : aEq ti.td (isLit xo || isLit yo) x y = some b) (op : BinOp) :
    (eqGuard op t xo yo xv yv).run C.P w = .ok () w ∧ (binOp .eql t xv yv).run C.P w = .ok (.bool b) w ∧ (binOp .neq t xv yv).run C.P w = .ok (.bool !b) w := by
  have key : (eqGuard op t xo yo xv yv).run C.P w = .ok () w ∧ (∀ d, (Op.equalIn (d + 1) t xv yv).run C.P w = .ok b w) ∧ (∀ k n, xv ≠ .int k n) ∧ (∀ s, xv ≠ .string s) ∧ (∀ k n, xv ≠ .float k n) ∧ (∀ k n i, xv ≠ .complex k n i) := by
    unfold aEq at h
    split at h
    · rename_i hd
      have hu := hT.bool hd
      split at h
      · cases h
        cases hx.pv_inv
        cases hy.pv_inv
        exact ⟨by unfold eqGuard; split <;> rfl, fun d => by simp [Op.equalIn, run_underlying hu], by simp, by simp, by simp, by simp⟩
      · cases h
    · rename_i el hd
      have hu := hT.ptr hd
      rcases bothO_some h with ⟨h1, h2, rfl⟩ | ⟨h1, h2, rfl⟩ | ⟨h1, h2, rfl⟩ <;> rcases isPtrA_rep h1 hx with ⟨rfl, h3⟩ | ⟨a, rfl, h3⟩ <;> rcases isPtrA_rep h2 hy with ⟨rfl, h4⟩ | ⟨a2, rfl, h4⟩ <;> (try (cases h3; done)) <;> (try (cases h4; done))
      all_goals exact ⟨by unfold eqGuard; split <;> rfl, fun d => by simp [Op.equalIn, run_underlying hu], by simp, by simp, by simp, by simp⟩
    · rename_i n hd
      obtain ⟨ms, hu⟩ := hT.iface hd
      split at h
      · rename_i h1 h2
        split at h
        · rename_i hl
          cases h
          rcases isIfA_rep h1 hx with ⟨rfl, h3⟩ | ⟨t1, u1, rfl, h3⟩ <;> rcases isIfA_rep h2 hy with ⟨rfl, h4⟩ | ⟨t2, u2, rfl, h4⟩ <;> (try (cases h3; done)) <;> (try (cases h4; done))
          refine ⟨?_, fun d => by simp [Op.equalIn, run_underlying hu], by simp, by simp, by simp, by simp⟩
          unfold eqGuard
          cases xo <;> cases yo <;> first | (simp [isLit] at hl; done) | (split <;> rfl)
        · cases h
      · rename_i t1 h1 h2
        cases h
        rcases isIfA_rep h1 hx with ⟨rfl, h3⟩ | ⟨t1, u1, rfl, h3⟩ <;> rcases isIfA_rep h2 hy with ⟨rfl, h4⟩ | ⟨t2, u2, rfl, h4⟩ <;> (try (cases h3; done)) <;> (try (cases h4; done))
        exact ⟨by unfold eqGuard; split <;> rfl, fun d => by simp [Op.equalIn, run_underlying hu], by simp, by simp, by simp, by simp⟩
      · rename_i t1 h1 h2
        cases h
        rcases isIfA_rep h1 hx with ⟨rfl, h3⟩ | ⟨t1, u1, rfl, h3⟩ <;> rcases isIfA_rep h2 hy with ⟨rfl, h4⟩ | ⟨t2, u2, rfl, h4⟩ <;> (try (cases h3; done)) <;> (try (cases h4; done))
        exact ⟨by unfold eqGuard; split <;> rfl, fun d => by simp [Op.equalIn, run_underlying hu], by simp, by simp, by simp, by simp⟩
      · rename_i t1 t2 h1 h2
        split at h
        · rename_i hne
          cases h
          rcases isIfA_rep h1 hx with ⟨rfl, h3⟩ | ⟨t1, u1, rfl, h3⟩ <;> rcases isIfA_rep h2 hy with ⟨rfl, h4⟩ | ⟨t2, u2, rfl, h4⟩ <;> (try (cases h3; done)) <;> (try (cases h4; done))
          cases h3
          cases h4
          exact ⟨by unfold eqGuard; split <;> rfl, fun d => by simp [Op.equalIn, run_underlying hu, hne], by simp, by simp, by simp, by simp⟩
        · cases h
      · cases h
    · rename_i el hd
      have hu := hT.slice hd
      rcases bothO_some h with ⟨h1, h2, rfl⟩ | ⟨h1, h2, rfl⟩ | ⟨h1, h2, rfl⟩ <;> rcases isSlA_rep h1 hx with ⟨rfl, h3⟩ | ⟨a, l, c, rfl, h3⟩ <;> rcases isSlA_rep h2 hy with ⟨rfl, h4⟩ | ⟨a2, l2, c2, rfl, h4⟩ <;> (try (cases h3; done)) <;> (try (cases h4; done))
      all_goals exact ⟨by unfold eqGuard; split <;> rfl, fun d => by simp [Op.equalIn, run_underlying hu], by simp, by simp, by simp, by simp⟩
    · rename_i hd
      obtain ⟨q1, q2, q3, hu⟩ := hT.func hd
      rcases bothO_some h with ⟨h1, h2, rfl⟩ | ⟨h1, h2, rfl⟩ | ⟨h1, h2, rfl⟩ <;> rcases isFnA_rep h1 hx with ⟨rfl, h3⟩ | ⟨a, l, c, rfl, h3⟩ <;> rcases isFnA_rep h2 hy with ⟨rfl, h4⟩ | ⟨a2, l2, c2, rfl, h4⟩ <;> (try (cases h3; done)) <;> (try (cases h4; done))
      all_goals exact ⟨by unfold eqGuard; split <;> rfl, fun d => by simp [Op.equalIn, run_underlying hu], by simp, by simp, by simp, by simp⟩
    · cases h
  obtain ⟨h1, h2, h3, h4, h5, h6⟩ := key
  refine ⟨h1, ?_, ?_⟩
  · have := h2 9999
    cases xv <;> first | exact absurd rfl (h3 _ _) | exact absurd rfl (h4 _) | exact absurd rfl (h5 _ _) | exact absurd rfl (h6 _ _ _) | simp [binOp, Op.equal, Op.maxDepth, this]
  · have := h2 9999
    cases xv <;> first | exact absurd rfl (h3 _ _) | exact absurd rfl (h4 _) | exact absurd rfl (h5 _ _) | exact absurd rfl (h6 _ _ _) | simp [binOp, Op.equal, Op.maxDepth, this]
theorem binOp_sound {C : Ctx} (hC : TabOK C) {m : Mp} {K : KS} {w : World} {t : TypeId} {op : BinOp} {xo yo : Operand} {x y : AV} {xv yv : Value} (hx : ARep m K x xv) (hy : ARep m K y yv) {k : AV → Prop}
    (h : aBinK C.tab t (isLit xo || isLit yo) op x y k) : ∃ r, k r ∧ ∃ v, (do eqGuard op t xo yo xv yv; binOp op t xv yv : Sem Value).run C.P w = .ok v w ∧ ARep m K r v := by
  unfold aBinK at h
  split at h
  · cases hx.pv_inv
    cases hy.pv_inv
    obtain ⟨r, hk, v, hv, hr⟩ := binInt_sound (C := C) (m := m) (K := K) (w := w) (t := t) (lit := isLit xo || isLit yo) (op := op) (k := k) (by unfold aBinK; exact h)
    exact ⟨r, hk, v, by simp only [Sem.run_bind, eqGuard_int, Result.andThen_ok]; exact hv, hr⟩
  · cases hx.pv_inv
    cases hy.pv_inv
    obtain ⟨r, hk, v, hv, hr⟩ := binStr_sound (C := C) (m := m) (K := K) (w := w) (t := t) (lit := isLit xo || isLit yo) (op := op) (k := k) (by unfold aBinK; exact h)
    exact ⟨r, hk, v, by simp only [Sem.run_bind, eqGuard_str, Result.andThen_ok]; exact hv, hr⟩
  · unfold aEqK at h
    cases op <;> try exact h.elim
    · obtain ⟨ti, hti, h⟩ := opt_some h
      obtain ⟨b, hb, h⟩ := opt_some h
      obtain ⟨h1, h2, h3⟩ := aEq_sound (w := w) (hC _ _ hti) hx hy hb .eql
      exact ⟨_, h, _, by simp only [Sem.run_bind, h1, Result.andThen_ok]; exact h2, .pv _ _ (.bool _)⟩
    · obtain ⟨ti, hti, h⟩ := opt_some h
      obtain ⟨b, hb, h⟩ := opt_some h
      obtain ⟨h1, h2, h3⟩ := aEq_sound (w := w) (hC _ _ hti) hx hy hb .neq
      exact ⟨_, h, _, by simp only [Sem.run_bind, h1, Result.andThen_ok]; exact h3, .pv _ _ (.bool _)⟩

end Go.Sv
