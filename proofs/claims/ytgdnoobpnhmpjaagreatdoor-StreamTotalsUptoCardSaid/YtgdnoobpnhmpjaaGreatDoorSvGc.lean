/- A store may be told anew: objects that nothing leads to are left out, the others get new numbers. -/
import Derived.Test.YtgdnoobpnhmpjaaGreatDoorSvC
set_option linter.unusedVariables false
set_option maxRecDepth 100000
namespace Go.Sv
open Go Go.RowKit
mutual
def AV.mapId (f : Nat → Nat) : AV → AV
  | .pv p => .pv p
  | .nilsl => .nilsl
  | .ptr id off => .ptr (f id) off
  | .eptr id ver i off => .eptr (f id) ver i off
  | .ro p off => .ro p off
  | .arr id ver off len => .arr (f id) ver off len
  | .agg cs => .agg (AV.mapIds f cs)
  | .tup vs => .tup (AV.mapIds f vs)
  | .iface t a => .iface t (AV.mapId f a)
  | .func fn xs ys => .func fn (AV.mapIds f xs) (AV.mapIds f ys)
  | .mref id => .mref (f id)
  | .avs id len => .avs (f id) len
  | .dead => .dead
def AV.mapIds (f : Nat → Nat) : List AV → List AV
  | [] => []
  | a :: r => AV.mapId f a :: AV.mapIds f r
end
theorem mapIds_get (f : Nat → Nat) : ∀ (l : List AV) (j : Nat), (AV.mapIds f l)[j]? = (l[j]?).map (AV.mapId f)
  | [], j => by simp [AV.mapIds]
  | a :: r, 0 => by simp [AV.mapIds]
  | a :: r, j + 1 => by
    rw [AV.mapIds, List.getElem?_cons_succ, List.getElem?_cons_succ]
    exact mapIds_get f r j
theorem mapIds_len (f : Nat → Nat) : ∀ (l : List AV), (AV.mapIds f l).length = l.length
  | [] => rfl
  | a :: r => by rw [AV.mapIds, List.length_cons, List.length_cons, mapIds_len f r]
def SObj.mapId (f : Nat → Nat) : SObj → SObj
  | .cells ty cs => .cells ty (AV.mapIds f cs)
  | .arr es xs fz => .arr es xs fz
  | .bld ty el s => .bld ty el s
  | .mp es => .mp (es.map fun e => (e.1, AV.mapId f e.2))
  | .gone => .gone
def remMp (m : Mp) (f : Nat → Nat) (k : Nat) : Mp := fun id ver => if id < k then m (f id) ver else none
theorem ARep.remap {m : Mp} {K : KS} {f : Nat → Nat} {k : Nat} {a0 : AV} {v : Value} (h : ARep m K a0 v) : ∀ a, AV.mapId f a = a0 → AV.under k a = true → ARep (remMp m f k) K a v := by
  have get : ∀ {id ver : Nat} {x : Option Loc}, Nat.ble (id + 1) k = true → m (f id) ver = x → remMp m f k id ver = x := by
    intro id ver x hu hm
    unfold remMp
    rw [if_pos (show id < k from Nat.le_of_ble_eq_true hu)]
    exact hm
  induction h with
  | pv p v h =>
    intro a e hu
    cases a <;> first | (simp only [AV.mapId, reduceCtorEq] at e; done) | skip
    simp only [AV.mapId, AV.pv.injEq] at e
    subst e
    exact .pv _ _ h
  | nilsl =>
    intro a e hu
    cases a <;> first | (simp only [AV.mapId, reduceCtorEq] at e; done) | skip
    exact .nilsl
  | ptr id off b cap es h =>
    intro a e hu
    cases a <;> first | (simp only [AV.mapId, reduceCtorEq] at e; done) | skip
    simp only [AV.mapId, AV.ptr.injEq] at e
    obtain ⟨rfl, rfl⟩ := e
    exact .ptr _ _ b cap es (get hu h)
  | eptr id ver i off b cap es h hi =>
    intro a e hu
    cases a <;> first | (simp only [AV.mapId, reduceCtorEq] at e; done) | skip
    simp only [AV.mapId, AV.eptr.injEq] at e
    obtain ⟨rfl, rfl, rfl, rfl⟩ := e
    exact .eptr _ _ _ _ b cap es (get hu h) hi
  | ro p off b o vs hl hr hk =>
    intro a e hu
    cases a <;> first | (simp only [AV.mapId, reduceCtorEq] at e; done) | skip
    simp only [AV.mapId, AV.ro.injEq] at e
    obtain ⟨rfl, rfl⟩ := e
    exact .ro _ _ b o vs hl hr hk
  | arr id ver off len b cap es c ad h hc hl hv ha =>
    intro a e hu
    cases a <;> first | (simp only [AV.mapId, reduceCtorEq] at e; done) | skip
    simp only [AV.mapId, AV.arr.injEq] at e
    obtain ⟨rfl, rfl, rfl, rfl⟩ := e
    exact .arr _ _ _ _ b cap es c ad (get hu h) hc hl hv ha
  | arrNil id h =>
    intro a e hu
    cases a <;> first | (simp only [AV.mapId, reduceCtorEq] at e; done) | skip
    simp only [AV.mapId, AV.arr.injEq] at e
    obtain ⟨rfl, rfl, rfl, rfl⟩ := e
    exact .arrNil _ (get hu h)
  | agg cs vs hl hr h1 ih =>
    intro a e hu
    cases a <;> first | (simp only [AV.mapId, reduceCtorEq] at e; done) | skip
    simp only [AV.mapId, AV.agg.injEq] at e
    subst e
    refine .agg _ _ (by rw [← mapIds_len f]; exact hl) (fun j p v hp hv => ih j _ v (by rw [mapIds_get, hp]; rfl) hv p rfl (unders_get hu hp)) h1
  | tup cs vs hl hr ih =>
    intro a e hu
    cases a <;> first | (simp only [AV.mapId, reduceCtorEq] at e; done) | skip
    simp only [AV.mapId, AV.tup.injEq] at e
    subst e
    exact .tup _ _ (by rw [← mapIds_len f]; exact hl) (fun j p v hp hv => ih j _ v (by rw [mapIds_get, hp]; rfl) hv p rfl (unders_get hu hp))
  | iface t p v h ih =>
    intro a e hu
    cases a <;> first | (simp only [AV.mapId, reduceCtorEq] at e; done) | skip
    simp only [AV.mapId, AV.iface.injEq] at e
    obtain ⟨rfl, e⟩ := e
    exact .iface _ _ v (ih _ e hu)
  | func fn xs ys us vs hl hr hl' hr' ih ih' =>
    intro a e hu
    cases a <;> first | (simp only [AV.mapId, reduceCtorEq] at e; done) | skip
    simp only [AV.mapId, AV.func.injEq] at e
    obtain ⟨rfl, rfl, rfl⟩ := e
    simp only [AV.under, Bool.and_eq_true] at hu
    exact .func _ _ _ us vs (by rw [← mapIds_len f]; exact hl) (fun j p v hp hv => ih j _ v (by rw [mapIds_get, hp]; rfl) hv p rfl (unders_get hu.1 hp)) (by rw [← mapIds_len f]; exact hl') (fun j p v hp hv => ih' j _ v (by rw [mapIds_get, hp]; rfl) hv p rfl (unders_get hu.2 hp))
  | mref id b cap es h =>
    intro a e hu
    cases a <;> first | (simp only [AV.mapId, reduceCtorEq] at e; done) | skip
    simp only [AV.mapId, AV.mref.injEq] at e
    subst e
    exact .mref _ b cap es (get hu h)
  | avs id len b cap es h =>
    intro a e hu
    cases a <;> first | (simp only [AV.mapId, reduceCtorEq] at e; done) | skip
    simp only [AV.mapId, AV.avs.injEq] at e
    obtain ⟨rfl, rfl⟩ := e
    exact .avs _ _ b cap es (get hu h)
  | dead v =>
    intro a e hu
    cases a <;> first | (simp only [AV.mapId, reduceCtorEq] at e; done) | skip
    exact .dead v
theorem blk_remap {m : Mp} {f : Nat → Nat} {k id : Nat} (hid : id < k) (x : SObj) : blk (remMp m f k) id x = blk m (f id) (x.mapId f) := by
  cases x <;> simp [blk, remMp, hid, SObj.mapId]
theorem Bears.remap {C : Ctx} {m : Mp} {K : KS} {σ : Store} {w : World} (hB : Bears C m K σ w) {τ : Store} {f : Nat → Nat} (hinj : ∀ i j, i < τ.length → j < τ.length → f i = f j → i = j) (hσ : ∀ (j : Nat) x, τ[j]? = some x → σ[f j]? = some (x.mapId f)) (hu : storeUnder τ.length τ = true) (hG : ∀ g, C.glob g = none) :
    Bears C (remMp m f τ.length) K τ w := by
  refine ⟨hB.below, hB.keep, fun id ver l h => ?_, fun id x h => ?_, fun id x b h hb => ?_, fun id x id' x' b h h' hb hb' => ?_, fun g a h => (by rw [hG g] at h; cases h), hB.old⟩
  · unfold remMp at h
    split at h
    · assumption
    · cases h
  · have hlt := (List.getElem?_eq_some_iff.1 h).1
    have ho := hB.obj (f id) _ (hσ id x h)
    have hc : ∀ ver, remMp m f τ.length id ver = m (f id) ver := fun ver => by simp [remMp, hlt]
    cases x with
    | cells ty cs =>
      obtain ⟨b, cap, es, arr, hm, hh, hl, hr, hkk⟩ := ho
      have hus := storeUnder_get hu h
      exact ⟨b, cap, es, arr, by rw [hc]; exact hm, hh, by rw [← mapIds_len f]; exact hl, fun j a v x y => ⟨(hr j _ v (by rw [mapIds_get, x]; rfl) y).1.remap a rfl (unders_get hus x), (hr j _ v (by rw [mapIds_get, x]; rfl) y).2⟩, hkk⟩
    | arr es xs fz =>
      obtain ⟨hver, ho⟩ := ho
      refine ⟨fun ver l hl => hver ver l (by rw [← hc]; exact hl), ?_⟩
      rcases ho with ⟨h0, hm⟩ | ⟨b, cap, arr, ty, fr, hm, rest⟩
      · exact .inl ⟨h0, by rw [hc]; exact hm⟩
      · exact .inr ⟨b, cap, arr, ty, fr, by rw [hc]; exact hm, rest⟩
    | bld ty el s =>
      obtain ⟨b, cap, es, p, v, hm, hh, hp, hkk, hver, ho⟩ := ho
      refine ⟨b, cap, es, p, v, by rw [hc]; exact hm, hh, hp, hkk, fun ver l hl => hver ver l (by rw [← hc]; exact hl), ?_⟩
      rcases ho with ⟨h0, hm2, hv⟩ | ⟨b2, cap2, arr, fr, hm2, rest⟩
      · exact .inl ⟨h0, by rw [hc]; exact hm2, hv⟩
      · exact .inr ⟨b2, cap2, arr, fr, by rw [hc]; exact hm2, rest⟩
    | mp es =>
      obtain ⟨b, cap, s, arr, clock, hm, hh, hl, hr⟩ := ho
      have hus := storeUnder_mp hu h
      refine ⟨b, cap, s, arr, clock, by rw [hc]; exact hm, hh, by rw [← hl, List.length_map], fun j e a x y => ?_⟩
      have := hr j (e.1, AV.mapId f e.2) a (by rw [List.getElem?_map, x]; rfl) y
      exact ⟨this.1, this.2.remap _ rfl (unders_get hus (j := j) (by rw [List.getElem?_map, x]; rfl))⟩
    | gone => trivial
  · have hlt := (List.getElem?_eq_some_iff.1 h).1
    rw [blk_remap hlt] at hb
    exact hB.base _ _ b (hσ id x h) hb
  · have hlt := (List.getElem?_eq_some_iff.1 h).1
    have hlt' := (List.getElem?_eq_some_iff.1 h').1
    rw [blk_remap hlt] at hb
    rw [blk_remap hlt'] at hb'
    exact hinj _ _ hlt hlt' (hB.apart _ _ _ _ b (hσ id x h) (hσ id' x' h') hb hb')
def mapEnv (f : Nat → Nat) (env : Env) : Env := env.map fun p => (p.1, AV.mapId f p.2)
theorem getE_mapEnv (f : Nat → Nat) : ∀ (env : Env) (t : Nat), getE (mapEnv f env) t = AV.mapId f (getE env t)
  | [], t => rfl
  | (u, a) :: r, t => by
    show getE ((u, AV.mapId f a) :: mapEnv f r) t = _
    unfold getE
    split
    · rfl
    · exact getE_mapEnv f r t
def nthId (l : List Nat) (j : Nat) : Nat := l.getD j 0
def remOK (σ : Store) (f : Nat → Nat) : Nat → Store → Prop
  | _, [] => True
  | j, x :: r => σ[f j]? = some (x.mapId f) ∧ remOK σ f (j + 1) r
theorem remOK_get {σ : Store} {f : Nat → Nat} : ∀ (r : Store) (i j : Nat) (x : SObj), remOK σ f i r → r[j]? = some x → σ[f (i + j)]? = some (x.mapId f)
  | [], i, j, x, _, h => by simp at h
  | y :: r, i, 0, x, h, hx => by
    simp only [List.getElem?_cons_zero, Option.some.injEq] at hx
    subst hx
    exact h.1
  | y :: r, i, j + 1, x, h, hx => by
    have := remOK_get r (i + 1) j x h.2 (by simpa using hx)
    rw [show i + 1 + j = i + (j + 1) by omega] at this
    exact this
theorem EWeak.remap {C : Ctx} (hG : ∀ g, C.glob g = none) {n : Nat} {env env' : Env} {σ τ : Store} (l : List Nat) (hl : l.length = τ.length) (hnd : l.Nodup) (hlow : ∀ i, i < n → nthId l i = i) (hn : n ≤ τ.length) (hσ : remOK σ (nthId l) 0 τ) (hu : wfS τ) (he : env = mapEnv (nthId l) env') (heu : envUnder τ.length env' = true) :
    EWeak C n env σ env' τ := by
  intro hn' m K w vs hB hE
  have hinj : ∀ i j, i < τ.length → j < τ.length → nthId l i = nthId l j → i = j := by
    intro i j hi hj e
    rw [← hl] at hi hj
    unfold nthId at e
    rw [List.getD_eq_getElem?_getD, List.getD_eq_getElem?_getD, List.getElem?_eq_getElem hi, List.getElem?_eq_getElem hj] at e
    have hp := List.pairwise_iff_getElem.1 hnd
    simp only [Option.getD_some] at e
    rcases Nat.lt_trichotomy i j with h | h | h
    · exact absurd e (hp i j hi hj h)
    · exact h
    · exact absurd e.symm (hp j i hj hi h)
  refine ⟨remMp m (nthId l) τ.length, K, hB.remap hinj (fun j x h => by have := remOK_get τ 0 j x hσ h; rwa [Nat.zero_add] at this) hu hG, fun t => ?_, ⟨fun id ver lc hid h => ?_, fun _ _ _ h => h⟩, hn⟩
  · have := hE t
    rw [he, getE_mapEnv] at this
    exact this.remap _ rfl (envUnder_get heu t)
  · unfold remMp
    rw [if_pos (by omega), hlow id hid]
    exact h
theorem alone_in {w0 : Base} (L : Laid w0.w) {f : FuncId} {args : List AV} {k : AV → Prop} {a : AV} (ha : args.all AV.isPv = true) (hu : AV.under 0 a = true) (h : ∀ w1 : Base, Laid w1.w → SCalls (cx w1) f args [] fun r _ => r = a) (hk : k a) : aloneK (cx w0) f args k :=
  ⟨ha, fun r => r = a, fun w K hb => (h ⟨w, K⟩ (L.mono hb)).mono (fun r _ e => by subst e; exact ⟨hu, rfl⟩), fun r e => by subst e; exact hk⟩
end Go.Sv
