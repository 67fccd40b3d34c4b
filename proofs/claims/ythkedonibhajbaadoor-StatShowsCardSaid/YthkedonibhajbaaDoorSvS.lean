/- Stores are well formed; what is known is weakened ahead of a loop; the library's contracts as calls over stores; a builder opened and shut. No program stands in this text. -/
import Derived.Test.YthkedonibhajbaaDoorSvQ
set_option linter.unusedVariables false
set_option linter.unusedSimpArgs false
namespace Go.Sv
open Go Go.RowKit

/-! ### No reference leads beyond a store -/
def wfS (σ : Store) : Prop := storeUnder σ.length σ = true
theorem unders_of {k : Nat} : ∀ {l : List AV}, (∀ (j : Nat) a, l[j]? = some a → AV.under k a = true) → AV.unders k l = true
  | [], _ => rfl
  | a :: r, h => by
    simp only [AV.unders, Bool.and_eq_true]
    exact ⟨h 0 a rfl, unders_of fun j b hb => h (j + 1) b (by simpa using hb)⟩
theorem storeUnder_of {k : Nat} : ∀ {σ : Store}, (∀ (id : Nat) ty cs, σ[id]? = some (.cells ty cs) → AV.unders k cs = true) → storeUnder k σ = true
  | [], _ => rfl
  | x :: r, h => by
    have hr : storeUnder k r = true := storeUnder_of fun id ty cs hc => h (id + 1) ty cs (by simpa using hc)
    cases x with
    | cells ty cs =>
      simp only [storeUnder, Bool.and_eq_true]
      exact ⟨h 0 ty cs rfl, hr⟩
    | _ => exact hr
theorem ARep.under {m : Mp} {K : KS} {k : Nat} (hd : ∀ id ver l, m id ver = some l → id < k) {a : AV} {v : Value} (h : ARep m K a v) : AV.under k a = true := by
  have lt : ∀ {id ver l}, m id ver = some l → Nat.ble (id + 1) k = true := fun h => Nat.ble_eq_true_of_le (hd _ _ _ h)
  induction h with
  | pv p v hp => rfl
  | nilsl => rfl
  | ptr id off b cap es hm => exact lt hm
  | eptr id ver i off b cap es hm hi => exact lt hm
  | ro p off b o vs hl hr hk => rfl
  | arr id ver off len b cap es c a hm hc hl hv ha => exact lt hm
  | arrNil id hm => exact lt hm
  | agg cs vs hl hr h1 ih =>
      refine unders_of fun j a ha => ?_
      have hj : j < vs.size := by rw [← hl]; exact (List.getElem?_eq_some_iff.1 ha).1
      exact ih j a vs[j] ha (Array.getElem?_eq_getElem hj)
  | tup cs vs hl hr ih =>
      refine unders_of fun j a ha => ?_
      have hj : j < vs.size := by rw [← hl]; exact (List.getElem?_eq_some_iff.1 ha).1
      exact ih j a vs[j] ha (Array.getElem?_eq_getElem hj)
  | iface t p v hp ih => exact ih
  | func fn as bs us vs hl hr hl' hr' ih ih' =>
    simp only [AV.under, Bool.and_eq_true]
    refine ⟨unders_of fun j a ha => ?_, unders_of fun j a ha => ?_⟩
    · have hj : j < us.size := by rw [← hl]; exact (List.getElem?_eq_some_iff.1 ha).1
      exact ih j a us[j] ha (Array.getElem?_eq_getElem hj)
    · have hj : j < vs.size := by rw [← hl']; exact (List.getElem?_eq_some_iff.1 ha).1
      exact ih' j a vs[j] ha (Array.getElem?_eq_getElem hj)
  | dead v => rfl
theorem Bears.wf {C : Ctx} {m : Mp} {K : KS} {σ : Store} {w : World} (hB : Bears C m K σ w) : wfS σ :=
  storeUnder_of fun id ty cs h => unders_of fun j a ha => by
    obtain ⟨b, cap, es, arr, hm, hh, hl, hr, hk⟩ := hB.obj id _ h
    have hj : j < arr.size := by rw [← hl]; exact (List.getElem?_eq_some_iff.1 ha).1
    exact (hr j a arr[j] ha (Array.getElem?_eq_getElem hj)).1.under hB.dom
theorem SCalls.wf {C : Ctx} {f : FuncId} {args : List AV} {σ : Store} {R : AV → Store → Prop} (h : wfS σ → AV.unders σ.length args = true → SCalls C f args σ R) : SCalls C f args σ R :=
  fun m K w vs hB hv => h hB.wf (unders_of fun j a ha => by
    have hj : j < vs.size := by rw [← hv.1]; exact (List.getElem?_eq_some_iff.1 ha).1
    exact (hv.2 j a vs[j] ha (Array.getElem?_eq_getElem hj)).under hB.dom) m K w vs hB hv
theorem SCalls.mono {C : Ctx} {f : FuncId} {args : List AV} {σ : Store} {R R' : AV → Store → Prop} (h : SCalls C f args σ R) (hr : ∀ r σ', R r σ' → R' r σ') : SCalls C f args σ R' :=
  fun m K w vs hB hv => (h m K w vs hB hv).mono fun v w' ⟨r, m', K', σ', h1, h2, h3, h4, h5⟩ => ⟨r, m', K', σ', h1, h2, h3, h4, hr _ _ h5⟩

/-! ### Less is known ahead of a loop -/
def EWeak (C : Ctx) (n : Nat) (env : Env) (σ : Store) (env' : Env) (τ : Store) : Prop :=
  n ≤ σ.length → ∀ m K w vs, Bears C m K σ w → EReps m K env vs → ∃ m' K', Bears C m' K' τ w ∧ EReps m' K' env' vs ∧ Le n m K m' K' ∧ n ≤ τ.length
theorem SLoop.weak {C : Ctx} {N n : Nat} {c : Code} {env env' : Env} {σ τ : Store} {Q : Exit → Env → Store → Prop} (hw : EWeak C n env σ env' τ) (h : SLoop C N n c env' τ Q) : SLoop C N n c env σ Q := by
  intro m K w a hB hn hN hE hd
  obtain ⟨m1, K1, hB1, hE1, hle, hn1⟩ := hw hn m K w a.tmps hB hE
  refine (h m1 K1 w a hB1 hn1 hN hE1 hd).mono fun e a' w' hp => ?_
  obtain ⟨env', σ', m', K', h1, h2, h3, h4, h5, h6, h7⟩ := hp
  exact ⟨env', σ', m', K', h1, h2, h3, h4, h5, hle.trans h6, h7⟩
theorem EWeak.trans {C : Ctx} {n : Nat} {e1 e2 e3 : Env} {s1 s2 s3 : Store} (h : EWeak C n e1 s1 e2 s2) (h' : EWeak C n e2 s2 e3 s3) : EWeak C n e1 s1 e3 s3 := by
  intro hn m K w vs hB hE
  obtain ⟨m1, K1, hB1, hE1, hle, hn1⟩ := h hn m K w vs hB hE
  obtain ⟨m2, K2, hB2, hE2, hle2, hn2⟩ := h' hn1 m1 K1 w vs hB1 hE1
  exact ⟨m2, K2, hB2, hE2, hle.trans hle2, hn2⟩
/-- What was laid behind goes. -/
theorem EWeak.drop {C : Ctx} (hC : ∀ g a, C.glob g = some a → AV.under 0 a = true) {n : Nat} {env : Env} {τ L : Store} (hn : n ≤ τ.length) (hu : wfS τ) (he : envUnder τ.length env = true) : EWeak C n env (τ ++ L) env τ := by
  intro _ m K w vs hB hE
  exact ⟨cutMp m τ.length, K, hB.cut (by simp) (by simp) hu (fun g a hga => under_mono (Nat.zero_le _) a (hC g a hga)), hE.cut he, (cut_le m K τ.length).less hn, hn⟩
theorem Bears.arrNil {C : Ctx} {m : Mp} {K : KS} {σ : Store} {w : World} (hB : Bears C m K σ w) (es : Nat) : ∃ m', Bears C m' K (σ ++ [.arr es [] false]) w ∧ Ext m K m' K ∧ m' σ.length 0 = some .nil := by
  have hnone : ∀ v, m σ.length v = none := fun v => by
    cases h : m σ.length v with
    | none => rfl
    | some l => exact absurd (hB.dom _ _ _ h) (Nat.lt_irrefl _)
  have hn : ∀ id ver l, m id ver = some l → setMp m σ.length 0 .nil id ver = some l := setMp_new (hnone 0)
  refine ⟨setMp m σ.length 0 .nil, hB.step σ.length (.arr es [] false) (fun id x h => get_append_new h) (by simp) (by simp) hn (fun i h => setMp_other _ _ _ _ _ h) hB.below (fun _ _ _ _ => rfl) (fun _ _ _ _ _ _ => rfl) ?_ ?_ ?_, ⟨hn, fun _ _ _ h => h⟩, setMp_same _ _ _ _⟩
  · refine ⟨fun ver l h => ?_, .inl ⟨rfl, setMp_same _ _ _ _⟩⟩
    unfold setMp at h
    split at h
    · rename_i e; exact Nat.le_of_eq e.2
    · rw [hnone] at h; cases h
  · intro b hb
    simp [blk, setMp_same, Loc.blk] at hb
  · intro b hb
    simp [blk, setMp_same, Loc.blk] at hb
/-- A slice that is nil is one of an array that holds nothing. -/
theorem EWeak.nil {C : Ctx} {n : Nat} {env env' : Env} {σ : Store} {t es : Nat} (ht : getE env t = .nilsl) (he : env' = putE env t (.arr σ.length 0 0 0)) : EWeak C n env σ env' (σ ++ [.arr es [] false]) := by
  intro hn m K w vs hB hE
  obtain ⟨m', hB', hx, hm⟩ := hB.arrNil es
  refine ⟨m', K, hB', fun u => ?_, hx.le n, by simp; omega⟩
  subst he
  rw [getE_putE]
  split
  · rename_i e; subst e
    have := hE t
    rw [ht] at this
    revert this
    generalize vs.getD t undef = x
    intro this
    cases this
    exact .arrNil _ hm
  · exact (hE u).mono hx

/-! ### Calls that leave what was there -/
theorem Bears.grown {C : Ctx} {m : Mp} {K : KS} {σ : Store} {w w' : World} (hB : Bears C m K σ w) (hb : Below w.heap.size w w') : Bears C m K σ w' :=
  ⟨hB.below.trans (hb.mono hB.below.size), fun b o v h => by
      rw [hb.cell (p := ⟨b, o, none⟩) (hB.keep_lt h)]; exact hB.keep b o v h, hB.dom,
    fun id x h => (hB.obj id x h).frame (Ext.refl _ _) rfl (fun b hbk => hb.block b (hB.lt h hbk)), hB.base, hB.apart, hB.glob, hB.old⟩
/-- More cells are kept: new ones. -/
theorem Bears.moreK {C : Ctx} {m : Mp} {K K' : KS} {σ : Store} {w w' : World} (hB : Bears C m K σ w) (hbl : Below w.heap.size w w') (hK : ∀ b o v, K b o v → K' b o v) (hn : ∀ b o v, K' b o v → K b o v ∨ w.heap.size ≤ b)
    (hkeep : ∀ b o v, K' b o v → w'.cell? ⟨b, o, none⟩ = some v ∧ v.oneCell' = true) : Bears C m K' σ w' := by
  have hc := hB.grown hbl
  have hext : Ext m K m K' := ⟨fun _ _ _ h => h, hK⟩
  have hno : ∀ (id : Nat) x b, σ[id]? = some x → b ∈ blk m id x → ∀ o v, K' b o v → K b o v := fun id x b h hb o v hk => by
    rcases hn b o v hk with h1 | h1
    · exact h1
    · have := hB.lt h hb; omega
  refine ⟨hc.below, hkeep, hc.dom, fun id x h => ?_, hc.base, hc.apart, fun g a h => (hc.glob g a h).mono hext, fun b o v h => ?_⟩
  · have ho := hc.obj id x h
    have hb := hno id x
    cases x with
    | cells ty cs =>
      obtain ⟨b, cap, es, arr, hm, hh, hl, hr, hkk⟩ := ho
      exact ⟨b, cap, es, arr, hm, hh, hl, fun j a v x y => ⟨(hr j a v x y).1.mono hext, (hr j a v x y).2⟩, fun o v hK => hkk o v (hb b h (by simp [blk, Loc.blk, hm]) o v hK)⟩
    | arr es xs fz =>
      obtain ⟨hver, ho⟩ := ho
      refine ⟨hver, ?_⟩
      rcases ho with ⟨rfl, hm⟩ | ⟨b, cap, arr, ty, fr, hm, hh, h1, h2, h3, h4, h5, h6, h7⟩
      · exact .inl ⟨rfl, hm⟩
      · exact .inr ⟨b, cap, arr, ty, fr, hm, hh, h1, h2, h3, h4, fun j p v x y => ⟨(h5 j p v x y).1.mono hK, (h5 j p v x y).2⟩, h6, fun j v hK => h7 j v (hb b h (by simp [blk, Loc.blk, hm]) j v hK)⟩
    | bld ty el s =>
      obtain ⟨b, cap, es, p, v, hm, hh, hp, hkk, hver, ho⟩ := ho
      refine ⟨b, cap, es, p, v, hm, hh, hp, fun o v hK => hkk o v (hb b h (by simp [blk, Loc.blk, hm]) o v hK), hver, ?_⟩
      rcases ho with ho | ⟨b2, cap2, arr, fr, hm2, g1, g2, g3, g4, g5, g6, g7, g8, g9⟩
      · exact .inl ho
      · exact .inr ⟨b2, cap2, arr, fr, hm2, g1, g2, g3, g4, g5, g6, g7, g8, fun o v hK => g9 o v (hb b2 h (by simp [blk, Loc.blk, hm2]) o v hK)⟩
    | gone => trivial
  · rcases hn b o v h with h1 | h1
    · exact hc.old b o v h1
    · exact .inr (Nat.le_trans hB.below.size h1)
theorem callFunc_enter {P : Program} {f : FuncId} {fn : Func} {c : Code} (hf : P.funcs[f]? = some fn) (hname : (fn.name == "runtime.NumGoroutine") = false) (hb : fn.body = some c) (vs : Array Value) (w : World) :
    (callFunc f vs).run P w = .ok (.enter f vs) w := by
  have h1 : fn.name ≠ "runtime.NumGoroutine" := by simpa using hname
  simp [callFunc, hf, h1, hb]
theorem CallNext.of_calls {P : Program} {f : FuncId} {vs : Array Value} {w : World} {R : Value → World → Prop} (hc : (callFunc f vs).run P w = .ok (.enter f vs) w) (h : Calls P f vs w fun e w' => ∃ v, e = .returned v ∧ R v w') : CallNext P f vs w R := by
  unfold CallNext; rw [hc]; exact h
theorem CallNext.calls {P : Program} {f : FuncId} {vs : Array Value} {w : World} {R : Value → World → Prop} (hc : (callFunc f vs).run P w = .ok (.enter f vs) w) (h : CallNext P f vs w R) : Calls P f vs w fun e w' => ∃ v, e = .returned v ∧ R v w' := by
  unfold CallNext at h; rw [hc] at h; exact h
/-- A call that lays memory of its own at the most, and answers a value without references. -/
theorem SCalls.below {C : Ctx} {f : FuncId} {args : List AV} {σ : Store} {R : AV → Store → Prop} (hc : ∀ vs w, (callFunc f vs).run C.P w = .ok (.enter f vs) w)
    (h : ∀ m K w vs, Bears C m K σ w → Reps m K args vs → Calls C.P f vs w fun e w' => ∃ v r, e = .returned v ∧ Below w.heap.size w w' ∧ ARep m K r v ∧ R r σ) : SCalls C f args σ R := by
  intro m K w vs hB hv
  refine CallNext.of_calls (hc vs w) ((h m K w vs hB hv).mono fun e w' ⟨v, r, he, hb, hr, hR⟩ => ⟨v, he, r, m, K, σ, hB.grown hb, Nat.le_refl _, Le.refl _ _ _, hr, hR⟩)
/-- A body of the model's own that answers at once. -/
theorem SCalls.prim {C : Ctx} {f : FuncId} {args : List AV} {σ : Store} {R : AV → Store → Prop}
    (h : ∀ m K w vs, Bears C m K σ w → Reps m K args vs → ∃ v r w', (callFunc f vs).run C.P w = .ok (.value v) w' ∧ Below w.heap.size w w' ∧ ARep m K r v ∧ R r σ) : SCalls C f args σ R := by
  intro m K w vs hB hv
  obtain ⟨v, r, w', hc, hb, hr, hR⟩ := h m K w vs hB hv
  unfold CallNext
  rw [hc]
  exact ⟨r, m, K, σ, hB.grown hb, Nat.le_refl _, Le.refl _ _ _, hr, hR⟩
theorem Reps.one {m : Mp} {K : KS} {a : AV} {vs : Array Value} (h : Reps m K [a] vs) : ∃ v, vs = #[v] ∧ ARep m K a v := by
  obtain ⟨hl, hr⟩ := h
  match vs, hl with
  | ⟨[v]⟩, _ => exact ⟨v, rfl, hr 0 a v rfl rfl⟩
theorem Reps.two {m : Mp} {K : KS} {a b : AV} {vs : Array Value} (h : Reps m K [a, b] vs) : ∃ v u, vs = #[v, u] ∧ ARep m K a v ∧ ARep m K b u := by
  obtain ⟨hl, hr⟩ := h
  match vs, hl with
  | ⟨[v, u]⟩, _ => exact ⟨v, u, rfl, hr 0 a v rfl rfl, hr 1 b u rfl rfl⟩
theorem Reps.three {m : Mp} {K : KS} {a b c : AV} {vs : Array Value} (h : Reps m K [a, b, c] vs) : ∃ v u x, vs = #[v, u, x] ∧ ARep m K a v ∧ ARep m K b u ∧ ARep m K c x := by
  obtain ⟨hl, hr⟩ := h
  match vs, hl with
  | ⟨[v, u, x]⟩, _ => exact ⟨v, u, x, rfl, hr 0 a v rfl rfl, hr 1 b u rfl rfl, hr 2 c x rfl rfl⟩
theorem ARep.str_inv {m : Mp} {K : KS} {s : List UInt8} {v : Value} (h : ARep m K (.pv (.str s)) v) : v = .string ⟨s.toArray⟩ := by
  cases h with | pv p v hp => cases hp; rfl
theorem ARep.int_inv {m : Mp} {K : KS} {k : IntKind} {n : Int} {v : Value} (h : ARep m K (.pv (.int k n)) v) : v = .int k n := by
  cases h with | pv p v hp => cases hp; rfl
theorem ARep.bool_inv {m : Mp} {K : KS} {b : Bool} {v : Value} (h : ARep m K (.pv (.bool b)) v) : v = .bool b := by
  cases h with | pv p v hp => cases hp; rfl
theorem ARep.raw_inv {m : Mp} {K : KS} {x v : Value} (h : ARep m K (.pv (.raw x)) v) : v = x := by
  cases h with | pv p v hp => cases hp; rfl
theorem ARep.ptr_inv {m : Mp} {K : KS} {id off : Nat} {v : Value} (h : ARep m K (.ptr id off) v) : ∃ b cap es, v = .pointer (some ⟨b, off, none⟩) ∧ m id 0 = some (.at b cap es) := by
  cases h with | ptr _ _ b cap es hm => exact ⟨b, cap, es, rfl, hm⟩

/-- A store into a variable of one cell. -/
theorem Bears.set_one {C : Ctx} {m : Mp} {K : KS} {σ : Store} {w : World} (hB : Bears C m K σ w) {id : Nat} {ty : TypeId} {old a : AV} {v : Value} (ho : σ[id]? = some (.cells ty [old])) {b cap es : Nat} (hm : m id 0 = some (.at b cap es)) (hr : ARep m K a v) (h1 : v.oneCell' = true) :
    Bears C m K (σ.set id (.cells ty [a])) (w.setCell ⟨b, 0, none⟩ v) := by
  obtain ⟨w', hrun, hB'⟩ := hB.store_cells ho hm 0 [a] [v] (by simp) rfl (fun j x y hx hy => by
    match j with
    | 0 => simp at hx hy; subst hx; subst hy; exact ⟨hr, h1⟩
    | j + 1 => simp at hx)
  obtain ⟨b', cap', es', arr', hm', hh', hl', _, _⟩ := hB.obj id _ ho
  rw [hm] at hm'; cases hm'
  obtain ⟨u', hu'⟩ : ∃ u, arr'[0]? = some u := ⟨arr'[0]'(by simp at hl'; omega), Array.getElem?_eq_getElem _⟩
  have h0' := cell_heap w b 0 hh'
  have hf' := frozen_heap w b 0 hh'
  simp only [storeCells, Sem.run_bind, addr_add, Nat.add_zero] at hrun
  rw [run_store _ _ _ _ _ h1, h0', hu', hf'] at hrun
  simp at hrun
  rw [hrun.symm] at hB'
  exact hB'

/-! ### Values without references at all -/
mutual
def PV.noSl : PV → Bool
  | .sl _ => false
  | .agg cs => PV.noSls cs
  | .iface _ p => PV.noSl p
  | _ => true
def PV.noSls : List PV → Bool
  | [] => true
  | p :: r => PV.noSl p && PV.noSls r
end
mutual
def AV.noRef : AV → Bool
  | .pv p => PV.noSl p
  | .nilsl => true
  | .agg cs => AV.noRefs cs
  | .tup cs => AV.noRefs cs
  | .iface _ a => AV.noRef a
  | .dead => true
  | _ => false
def AV.noRefs : List AV → Bool
  | [] => true
  | a :: r => AV.noRef a && AV.noRefs r
end
theorem noSls_get {l : List PV} (h : PV.noSls l = true) {j : Nat} {a : PV} (ha : l[j]? = some a) : PV.noSl a = true := by
  induction l generalizing j with
  | nil => simp at ha
  | cons b r ih =>
    simp only [PV.noSls, Bool.and_eq_true] at h
    cases j with
    | zero => simp at ha; subst ha; exact h.1
    | succ j => exact ih h.2 (by simpa using ha)
theorem noRefs_get {l : List AV} (h : AV.noRefs l = true) {j : Nat} {a : AV} (ha : l[j]? = some a) : AV.noRef a = true := by
  induction l generalizing j with
  | nil => simp at ha
  | cons b r ih =>
    simp only [AV.noRefs, Bool.and_eq_true] at h
    cases j with
    | zero => simp at ha; subst ha; exact h.1
    | succ j => exact ih h.2 (by simpa using ha)
theorem PRep.noSl {K K' : KS} {p : PV} {v : Value} (h : PRep K p v) (hn : PV.noSl p = true) : PRep K' p v := by
  induction h with
  | int k n => exact .int k n
  | bool b => exact .bool b
  | str s => exact .str s
  | raw v h => exact .raw v h
  | slNil a c => simp [PV.noSl] at hn
  | sl xs es b o c vs hc he hl hr hk ih => simp [PV.noSl] at hn
  | agg cs vs hl hr h1 ih => exact .agg cs vs hl (fun j p v a b => ih j p v a b (noSls_get hn a)) h1
  | iface t p v h ih => exact .iface t p v (ih hn)
theorem ARep.noRef {m m' : Mp} {K K' : KS} {a : AV} {v : Value} (h : ARep m K a v) (hn : AV.noRef a = true) : ARep m' K' a v := by
  induction h with
  | pv p v hp => exact .pv p v (hp.noSl hn)
  | nilsl => exact .nilsl
  | agg cs vs hl hr h1 ih => exact .agg cs vs hl (fun j p v a b => ih j p v a b (noRefs_get hn a)) h1
  | tup cs vs hl hr ih => exact .tup cs vs hl (fun j p v a b => ih j p v a b (noRefs_get hn a))
  | iface t p v h ih => exact .iface t p v (ih hn)
  | dead v => exact .dead v
  | _ => simp [AV.noRef] at hn
def AV.isPv : AV → Bool
  | .pv _ => true
  | _ => false
theorem ARep.pvs {m m' : Mp} {K : KS} {a : AV} {v : Value} (h : ARep m K a v) (hp : a.isPv = true) : ARep m' K a v := by
  cases h with
  | pv p v hp => exact .pv p v hp
  | _ => simp [AV.isPv] at hp

/-! ### A builder, opened and shut -/
def bldOpen (ty : TypeId) (σ : Store) (id : Nat) (a : AV) (s : List UInt8) : Store := σ.set id (.cells ty [a, .arr σ.length s.length 0 s.length]) ++ [.arr 1 (bytesPV s) true]
theorem bytesPV_length (s : List UInt8) : (bytesPV s).length = s.length := by simp [bytesPV]
theorem bytesPV_cells {s : List UInt8} : ∀ x ∈ bytesPV s, x.cells.length = 1 := by
  intro x hx
  obtain ⟨b, _, rfl⟩ := List.mem_map.1 hx
  rfl
theorem flat_bytesPV (s : List UInt8) : flat (bytesPV s) = bytesPV s := flat_bytes s
theorem bytesPV_get {s : List UInt8} {j : Nat} {p : PV} (h : (bytesPV s)[j]? = some p) : ∃ b, s[j]? = some b ∧ p = .int .u8 b.toNat := by
  simp only [bytesPV, List.getElem?_map, Option.map_eq_some_iff] at h
  obtain ⟨b, h1, h2⟩ := h
  exact ⟨b, h1, h2.symm⟩
end Go.Sv
