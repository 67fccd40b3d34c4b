/- Representation: what is known of values stays as the store grows; frames; what a place in memory holds. No program stands in this text. -/
import Derived.Test.YthkedonibhajbaaDoorSvB
set_option linter.unusedVariables false
set_option linter.unusedSimpArgs false
namespace Go.Sv
open Go Go.RowKit

def Ext (m : Mp) (K : KS) (m' : Mp) (K' : KS) : Prop := (∀ id ver l, m id ver = some l → m' id ver = some l) ∧ ∀ b o v, K b o v → K' b o v
theorem Ext.refl (m : Mp) (K : KS) : Ext m K m K := ⟨fun _ _ _ h => h, fun _ _ _ h => h⟩
theorem Ext.trans {m K m' K' m'' K''} (h : Ext m K m' K') (h' : Ext m' K' m'' K'') : Ext m K m'' K'' := ⟨fun _ _ _ x => h'.1 _ _ _ (h.1 _ _ _ x), fun _ _ _ x => h'.2 _ _ _ (h.2 _ _ _ x)⟩
theorem Ext.le {m K m' K'} (h : Ext m K m' K') (n : Nat) : Le n m K m' K' := ⟨fun _ _ _ _ x => h.1 _ _ _ x, h.2⟩
theorem Le.refl (n : Nat) (m : Mp) (K : KS) : Le n m K m K := ⟨fun _ _ _ _ h => h, fun _ _ _ h => h⟩
theorem Le.trans {n m K m' K' m'' K''} (h : Le n m K m' K') (h' : Le n m' K' m'' K'') : Le n m K m'' K'' := ⟨fun _ _ _ hi x => h'.1 _ _ _ hi (h.1 _ _ _ hi x), fun _ _ _ x => h'.2 _ _ _ (h.2 _ _ _ x)⟩
theorem Le.less {n k m K m' K'} (h : Le n m K m' K') (hk : k ≤ n) : Le k m K m' K' := ⟨fun _ _ _ hi x => h.1 _ _ _ (Nat.lt_of_lt_of_le hi hk) x, h.2⟩
theorem Le.ext {C : Ctx} {σ : Store} {w : World} {m K m' K'} (h : Le σ.length m K m' K') (hB : Bears C m K σ w) : Ext m K m' K' := ⟨fun _ _ _ x => h.1 _ _ _ (hB.dom _ _ _ x) x, h.2⟩

theorem PRep.mono {K K' : KS} (h : ∀ b o v, K b o v → K' b o v) {p : PV} {v : Value} (r : PRep K p v) : PRep K' p v := by
  induction r with
  | int k n => exact .int k n
  | bool b => exact .bool b
  | str s => exact .str s
  | raw v h1 => exact .raw v h1
  | slNil a c => exact .slNil a c
  | sl xs es b o c vs hc he hl hr hk ih => exact .sl xs es b o c vs hc he hl (fun j p v h1 h2 => ih j p v h1 h2) (fun j v hv => h _ _ _ (hk j v hv))
  | agg cs vs hl hr h1 ih => exact .agg cs vs hl (fun j p v a b => ih j p v a b) h1
  | iface t p v hp ih => exact .iface t p v ih
theorem ARep.mono {m m' : Mp} {K K' : KS} (h : Ext m K m' K') {a : AV} {v : Value} (r : ARep m K a v) : ARep m' K' a v := by
  induction r with
  | pv p v hp => exact .pv p v (hp.mono h.2)
  | nilsl => exact .nilsl
  | ptr id off b cap es hm => exact .ptr id off b cap es (h.1 _ _ _ hm)
  | eptr id ver i off b cap es hm hi => exact .eptr id ver i off b cap es (h.1 _ _ _ hm) hi
  | ro p off b o vs hl hr hk => exact .ro p off b o vs hl (fun j q v x y => (hr j q v x y).mono h.2) (fun j v x => h.2 _ _ _ (hk j v x))
  | arr id ver off len b cap es c a hm hc hl hv ha => exact .arr id ver off len b cap es c a (h.1 _ _ _ hm) hc hl hv ha
  | arrNil id hm => exact .arrNil id (h.1 _ _ _ hm)
  | agg cs vs hl hr h1 ih => exact .agg cs vs hl (fun j p v a b => ih j p v a b) h1
  | tup cs vs hl hr ih => exact .tup cs vs hl (fun j p v a b => ih j p v a b)
  | iface t p v hp ih => exact .iface t p v ih
  | func fn as bs us vs hl hr hl' hr' ih ih' => exact .func fn as bs us vs hl (fun j p v a b => ih j p v a b) hl' (fun j p v a b => ih' j p v a b)
  | dead v => exact .dead v
theorem Reps.mono {m m' K K'} (h : Ext m K m' K') {as : List AV} {vs : Array Value} (r : Reps m K as vs) : Reps m' K' as vs := ⟨r.1, fun j a v x y => (r.2 j a v x y).mono h⟩
theorem EReps.mono {m m' K K'} (h : Ext m K m' K') {env : Env} {vs : Array Value} (r : EReps m K env vs) : EReps m' K' env vs := fun t => (r t).mono h

/-! ### Frames -/
theorem beq_cases (u t : Nat) : (u = t ∧ Nat.beq u t = true) ∨ (u ≠ t ∧ Nat.beq u t = false) := by
  by_cases h : u = t
  · exact .inl ⟨h, by subst h; simp⟩
  · refine .inr ⟨h, ?_⟩
    cases hb : Nat.beq u t with
    | true => exact absurd (Nat.eq_of_beq_eq_true hb) h
    | false => rfl
theorem getE_putE (env : Env) (d t : Nat) (v : AV) : getE (putE env d v) t = if d = t then v else getE env t := by
  induction env with
  | nil =>
    simp only [putE, getE]
    rcases beq_cases d t with ⟨h, hb⟩ | ⟨h, hb⟩ <;> simp [h, hb]
  | cons x r ih =>
    obtain ⟨u, a⟩ := x
    simp only [putE]
    rcases beq_cases u d with ⟨h, hb⟩ | ⟨h, hb⟩
    · subst h
      simp only [hb, getE]
      rcases beq_cases u t with ⟨h, hb⟩ | ⟨h, hb⟩ <;> simp [h, hb]
    · simp only [hb]
      cases Nat.ble u d with
      | true =>
        simp only [getE]
        rcases beq_cases u t with ⟨h', hb'⟩ | ⟨h', hb'⟩
        · subst h'
          simp [hb', Ne.symm h]
        · simp only [hb', ih]
      | false =>
        simp only [getE]
        rcases beq_cases d t with ⟨h', hb'⟩ | ⟨h', hb'⟩ <;> simp [h', hb']
theorem getE_prune (l : List Nat) (env : Env) (t : Nat) : getE (prune l env) t = getE env t ∨ getE (prune l env) t = .dead := by
  induction env with
  | nil => exact .inl rfl
  | cons x r ih =>
    obtain ⟨u, a⟩ := x
    cases hm : memN u l with
    | true =>
      simp only [prune, hm, getE]
      cases Nat.beq u t with
      | true => exact .inl rfl
      | false => exact ih
    | false =>
      simp only [prune, hm, getE]
      rcases beq_cases u t with ⟨h', hb'⟩ | ⟨h', hb'⟩
      · subst h'
        right
        have : ∀ r : Env, getE (prune l r) u = .dead := by
          intro r
          induction r with
          | nil => rfl
          | cons y r ih =>
            obtain ⟨z, b⟩ := y
            cases hz : memN z l with
            | true =>
              simp only [prune, hz, getE]
              rcases beq_cases z u with ⟨h2, hb2⟩ | ⟨h2, hb2⟩
              · subst h2; rw [hm] at hz; cases hz
              · simp only [hb2]; exact ih
            | false => simp only [prune, hz]; exact ih
        exact this r
      · simp only [hb']; exact ih
theorem EReps.prune {m K env vs} (h : EReps m K env vs) (l : List Nat) : EReps m K (prune l env) vs := by
  intro t
  rcases getE_prune l env t with e | e <;> rw [e]
  · exact h t
  · exact .dead _
theorem getD_set (vs : Array Value) (d t : Nat) (x y : Value) : (vs.setIfInBounds d x).getD t y = if d = t ∧ d < vs.size then x else vs.getD t y := by
  simp only [Array.getD_eq_getD_getElem?, Array.getElem?_setIfInBounds]
  by_cases h : d = t
  · subst h
    by_cases h2 : d < vs.size
    · simp [h2]
    · simp [h2, Array.getElem?_eq_none (Nat.le_of_not_lt h2)]
  · simp [h]
theorem EReps.put {m K env vs} (h : EReps m K env vs) {d : Nat} {v : AV} {x : Value} (hd : d < vs.size) (hv : ARep m K v x) : EReps m K (putE env d v) (vs.setIfInBounds d x) := by
  intro t
  rw [getE_putE, getD_set]
  by_cases e : d = t
  · simp only [e, if_true]
    subst e
    simp only [hd, and_self, if_true]
    exact hv
  · simp only [e, if_false, false_and]
    exact h t
theorem argsE_get (as : List AV) (k t : Nat) : getE (argsE k as) t = if k ≤ t then (as[t - k]?).getD .dead else .dead := by
  induction as generalizing k with
  | nil => simp [argsE, getE]
  | cons a r ih =>
    simp only [argsE, getE]
    rcases beq_cases k t with ⟨h, hb⟩ | ⟨h, hb⟩
    · subst h; simp [hb]
    · simp only [hb, ih]
      by_cases hk : k ≤ t
      · have e1 : k + 1 ≤ t := by omega
        have e2 : t - k = t - (k + 1) + 1 := by omega
        simp [hk, e1, e2]
      · have e1 : ¬ k + 1 ≤ t := by omega
        simp [hk, e1]
theorem EReps.args {m K} {as : List AV} {vs : Array Value} (h : Reps m K as vs) (n : Nat) : EReps m K (argsE 0 as) (vs ++ Array.replicate n undef) := by
  intro t
  rw [argsE_get]
  simp only [Nat.zero_le, if_true, Nat.sub_zero]
  cases ha : as[t]? with
  | none => exact .dead _
  | some a =>
    have hlt : t < vs.size := by
      have := (List.getElem?_eq_some_iff.1 ha).1
      rw [← h.1]; exact this
    have hv : vs[t]? = some vs[t] := Array.getElem?_eq_getElem hlt
    have := h.2 t a _ ha hv
    have e : (vs ++ Array.replicate n undef).getD t undef = vs[t] := by
      simp [Array.getD_eq_getD_getElem?, Array.getElem?_append, hlt, hv]
    rw [e]
    exact this

/-! ### Aggregates -/
theorem allPv_map {cs : List AV} {ps : List PV} (h : allPv cs = some ps) : cs = ps.map .pv := by
  induction cs generalizing ps with
  | nil => simp [allPv] at h; subst h; rfl
  | cons a r ih =>
    cases a with
    | pv p =>
      simp only [allPv] at h
      cases hr : allPv r with
      | none => simp [hr] at h
      | some qs => simp [hr] at h; subst h; simp [ih hr]
    | _ => simp [allPv] at h
theorem allPv_of_map (ps : List PV) : allPv (ps.map .pv) = some ps := by
  induction ps with
  | nil => rfl
  | cons p r ih => simp [allPv, ih]
theorem ARep.pv_inv {m K p v} (h : ARep m K (.pv p) v) : PRep K p v := by cases h; assumption
theorem mkAgg_rep {m K} {cs : List AV} {vs : Array Value} (hl : cs.length = vs.size) (hr : ∀ (j : Nat) p v, cs[j]? = some p → vs[j]? = some v → ARep m K p v)
    (h1 : ∀ (j : Nat) (v : Value), vs[j]? = some v → v.oneCell' = true) : ARep m K (mkAgg cs) (.agg vs) := by
  unfold mkAgg
  cases h : allPv cs with
  | none => exact .agg cs vs hl hr h1
  | some ps =>
    have e := allPv_map h
    subst e
    refine .pv _ _ (.agg ps vs (by simpa using hl) (fun j p v hp hv => ?_) h1)
    exact (hr j (.pv p) v (by simp [hp]) hv).pv_inv
theorem ofLeaf_rep (m : Mp) (K : KS) (v : Value) : ARep m K (AV.ofLeaf v) v := by
  unfold AV.ofLeaf
  split
  · exact .pv _ _ (.int _ _)
  · exact .pv _ _ (.bool _)
  · rename_i s
    have : s = ⟨s.data.toList.toArray⟩ := by cases s; simp
    exact .pv _ _ (by conv => rhs; rw [this]
                      exact .str _)
  · exact .nilsl
  · exact .pv _ _ (.raw _ rfl)
  · exact .pv _ _ (.raw _ rfl)
  · exact .pv _ _ (.raw _ rfl)
  · exact .pv _ _ (.raw _ rfl)
  · rename_i f first captured
    split
    · rename_i h
      have e1 := Array.eq_empty_of_size_eq_zero h.1
      have e2 := Array.eq_empty_of_size_eq_zero h.2
      subst e1; subst e2
      exact .pv _ _ (.raw _ rfl)
    · exact .dead _
  · exact .dead _
theorem ofValue_rep (m : Mp) (K : KS) (v : Value) : ARep m K (AV.ofValue v) v := by
  unfold AV.ofValue
  split
  · rename_i cs
    split
    · rename_i h
      refine mkAgg_rep (by simp) (fun j p v hp hv => ?_) (fun j v hv => ?_)
      · simp only [List.getElem?_map, Option.map_eq_some_iff] at hp
        obtain ⟨u, hu, rfl⟩ := hp
        have : u = v := Option.some.inj (hu.symm.trans (by simpa using hv))
        subst this
        exact ofLeaf_rep m K u
      · rw [List.all_eq_true] at h
        exact h v (by simpa using Array.mem_of_getElem? hv)
    · exact .dead _
  · exact ofLeaf_rep m K _
theorem PRep.oneCell {K p v} (h : PRep K p v) (h1 : PV.one p = true) : v.oneCell' = true := by
  cases h <;> first | rfl | assumption | (simp [PV.one] at h1)
theorem ARep.oneCell {m K a v} (h : ARep m K a v) (h1 : AV.one a = true) : v.oneCell' = true := by
  cases h with
  | pv p v hp => cases p <;> first | exact hp.oneCell rfl | (simp [AV.one] at h1)
  | _ => first | rfl | (simp [AV.one] at h1)
theorem cells_one {v : Value} (h : v.oneCell' = true) : v.cells = #[v] := by
  cases v <;> first | rfl | (simp [Value.oneCell'] at h)
/-- The cells of a value that memory can hold. -/
theorem cells_rep {m K a v} (h : ARep m K a v) (h1 : a.cells.all AV.one = true) : a.cells.length = v.cells.size ∧
    ∀ (j : Nat) b u, a.cells[j]? = some b → v.cells[j]? = some u → ARep m K b u ∧ u.oneCell' = true := by
  have single : ∀ {a : AV} {v : Value}, ARep m K a v → AV.one a = true → a.cells = [a] → a.cells.length = v.cells.size ∧
      ∀ (j : Nat) b u, a.cells[j]? = some b → v.cells[j]? = some u → ARep m K b u ∧ u.oneCell' = true := by
    intro a v h h1 e
    have hv := h.oneCell h1
    rw [e, cells_one hv]
    refine ⟨rfl, fun j b u hb hu => ?_⟩
    cases j with
    | zero => simp at hb hu; subst hb; subst hu; exact ⟨h, hv⟩
    | succ j => simp at hb
  cases h with
  | pv p v hp =>
    cases hp with
    | agg cs vs hl hr hv =>
      refine ⟨by simp [AV.cells, PV.cells, Value.cells, hl], fun j b u hb hu => ?_⟩
      simp only [AV.cells, PV.cells, List.getElem?_map, Option.map_eq_some_iff] at hb
      obtain ⟨p, hp, rfl⟩ := hb
      exact ⟨.pv _ _ (hr j p u hp hu), hv j u hu⟩
    | int k n => exact single (.pv _ _ (.int k n)) rfl rfl
    | bool b => exact single (.pv _ _ (.bool b)) rfl rfl
    | str s => exact single (.pv _ _ (.str s)) rfl rfl
    | raw v hv => exact single (.pv _ _ (.raw v hv)) rfl rfl
    | slNil a c => exact single (.pv _ _ (.slNil a c)) rfl rfl
    | sl xs es b o c vs hc he hl hr hk => exact single (.pv _ _ (.sl xs es b o c vs hc he hl hr hk)) rfl rfl
    | iface t p v hp => exact single (.pv _ _ (.iface t p v hp)) rfl rfl
  | agg cs vs hl hr hv => exact ⟨hl, fun j b u hb hu => ⟨hr j b u hb hu, hv j u hu⟩⟩
  | tup cs vs hl hr => simp [AV.cells, AV.one] at h1
  | dead v => simp [AV.cells, AV.one] at h1
  | nilsl => exact single .nilsl rfl rfl
  | ptr id off b cap es hm => exact single (.ptr id off b cap es hm) rfl rfl
  | eptr id ver i off b cap es hm hi => exact single (.eptr id ver i off b cap es hm hi) rfl rfl
  | ro p off b o vs hl hr hk => exact single (.ro p off b o vs hl hr hk) rfl rfl
  | arr id ver off len b cap es c a hm hc hl hv ha => exact single (.arr id ver off len b cap es c a hm hc hl hv ha) rfl rfl
  | arrNil id hm => exact single (.arrNil id hm) rfl rfl
  | iface t p v hp => exact single (.iface t p v hp) rfl rfl
  | func fn as bs us vs hl hr hl' hr' => exact single (.func fn as bs us vs hl hr hl' hr') rfl rfl

theorem ev_rep {C : Ctx} {m K σ w} (hB : Bears C m K σ w) {env : Env} {a : Act} (he : EReps m K env a.tmps) (x : Operand) : ARep m K (ev C env x) (a.eval x) := by
  cases x with
  | tmp t => exact he t
  | const v => exact ofValue_rep m K v
  | global g =>
    simp only [ev, Act.eval]
    cases h : C.glob g with
    | none => exact .dead _
    | some a => exact hB.glob g a h
  | func f => exact .pv _ _ (.raw _ rfl)

/-! ### Types -/
def zOK (ti : TI) : Bool := Nat.beq ti.zero.cells.size ti.size && ti.zero.cells.toList.all Value.oneCell'
def TIok (P : Program) (t : TypeId) (ti : TI) : Prop :=
  ∃ i d, P.info? t = some i ∧ P.underlying t = some d ∧ i.zero = some ti.zero ∧ i.size = ti.size ∧ i.bytes = ti.bytes ∧ TD.of d = ti.td ∧ zOK ti = true
theorem TIok.zero {P : Program} {t : TypeId} {ti : TI} (h : TIok P t ti) : ti.zero.cells.size = ti.size ∧ ∀ (j : Nat) (v : Value), ti.zero.cells[j]? = some v → v.oneCell' = true := by
  obtain ⟨_, _, _, _, _, _, _, _, hz⟩ := h
  simp only [zOK, Bool.and_eq_true] at hz
  refine ⟨Nat.eq_of_beq_eq_true hz.1, fun j v hv => ?_⟩
  have := hz.2
  rw [List.all_eq_true] at this
  exact this v (by simpa using Array.mem_of_getElem? hv)
theorem run_isAgg {P : Program} {t : TypeId} {ti : TI} (h : TIok P t ti) (w : World) : (isAgg t).run P w = .ok ti.td.isAgg w := by
  obtain ⟨i, d, _, hd, _, _, _, e, _⟩ := h
  unfold isAgg
  simp only [Sem.run_bind, run_underlying hd, Result.andThen_ok]
  rw [← e]
  cases d <;> rfl
theorem run_sizeOf' {P : Program} {t : TypeId} {ti : TI} (h : TIok P t ti) (w : World) : (sizeOf t).run P w = .ok ti.size w := by
  obtain ⟨i, d, hi, _, _, hs, _, _, _⟩ := h
  simp [sizeOf, typeInfo, hi, hs]
theorem run_zeroValue' {P : Program} {t : TypeId} {ti : TI} (h : TIok P t ti) (w : World) : (zeroValue t).run P w = .ok ti.zero w := by
  obtain ⟨i, d, hi, _, hz, _, _, _, _⟩ := h
  simp [zeroValue, typeInfo, hi, hz]

/-! ### What stands at a place -/
/-- From a place on, memory holds what these cells stand for. -/
def CellsAt (m : Mp) (K : KS) (w : World) (b o : Nat) (cs : List AV) : Prop :=
  ∀ (j : Nat) a, cs[j]? = some a → ∃ v, w.cell? ⟨b, o + j, none⟩ = some v ∧ ARep m K a v ∧ v.oneCell' = true
theorem addr_add (b o n : Nat) : (⟨b, o, none⟩ : Addr).add n = ⟨b, o + n, none⟩ := by
  unfold Addr.add
  split
  · rename_i h; subst h; rfl
  · rfl
theorem exists_values {m K w b o} {cs : List AV} (h : CellsAt m K w b o cs) : ∃ vs : List Value, vs.length = cs.length ∧
    ∀ (j : Nat) a, cs[j]? = some a → ∃ v, vs[j]? = some v ∧ w.cell? ⟨b, o + j, none⟩ = some v ∧ ARep m K a v ∧ v.oneCell' = true := by
  induction cs generalizing o with
  | nil => exact ⟨[], rfl, fun j a h => by simp at h⟩
  | cons c r ih =>
    obtain ⟨v, hv, hr, h1⟩ := h 0 c rfl
    obtain ⟨vs, hl, hs⟩ := ih (o := o + 1) (fun j a hj => by
      obtain ⟨v, hv, hr⟩ := h (j + 1) a (by simpa using hj)
      exact ⟨v, by rw [show o + 1 + j = o + (j + 1) by omega]; exact hv, hr⟩)
    refine ⟨v :: vs, by simp [hl], fun j a hj => ?_⟩
    cases j with
    | zero => simp at hj; subst hj; exact ⟨v, rfl, hv, hr, h1⟩
    | succ j =>
      obtain ⟨u, hu, hc, hr⟩ := hs j a (by simpa using hj)
      exact ⟨u, by simpa using hu, by rw [show o + (j + 1) = o + 1 + j by omega]; exact hc, hr⟩
theorem run_loadVar_at {P : Program} {t : TypeId} {ti : TI} (hT : TIok P t ti) {m K w b o off} {cs : List AV} (h : CellsAt m K w b o cs) {r : AV} (hp : partA ti.td.isAgg ti.size off cs = some r) :
    ∃ v, (loadVar t ⟨b, o + off, none⟩).run P w = .ok v w ∧ ARep m K r v := by
  unfold loadVar
  simp only [Sem.run_bind, run_isAgg hT, Result.andThen_ok]
  unfold partA at hp
  cases ha : ti.td.isAgg with
  | true =>
    rw [ha] at hp
    simp only [if_true] at hp ⊢
    split at hp
    · rename_i hle
      cases hp
      obtain ⟨vs, hl, hs⟩ := exists_values h
      have hcell : ∀ j v, ((vs.drop off).take ti.size)[j]? = some v → w.cell? ((⟨b, o + off, none⟩ : Addr).add j) = some v := by
        intro j v hj
        rw [List.getElem?_take] at hj
        split at hj
        · rename_i hlt
          rw [List.getElem?_drop] at hj
          obtain ⟨u, hu, hc, _⟩ := hs (off + j) (cs[off + j]'(by omega)) (List.getElem?_eq_getElem (by omega))
          rw [hu] at hj
          cases hj
          rw [addr_add, show o + off + j = o + (off + j) by omega]
          exact hc
        · simp at hj
      have hlen : ((vs.drop off).take ti.size).length = ti.size := by
        rw [List.length_take, List.length_drop]; omega
      have hrun := run_loadCells_list (P := P) w ⟨b, o + off, none⟩ ((vs.drop off).take ti.size) hcell
      rw [hlen] at hrun
      refine ⟨_, by simp [run_sizeOf' hT, hrun]; rfl, ?_⟩
      refine mkAgg_rep (by simp only [List.length_take, List.length_drop, List.size_toArray]; omega) (fun j p v hp hv => ?_) (fun j v hv => ?_)
      · simp only [List.getElem?_toArray] at hv
        rw [List.getElem?_take] at hp hv
        split at hp
        · rename_i hlt
          simp only [hlt, if_true] at hv
          rw [List.getElem?_drop] at hp hv
          obtain ⟨u, hu, _, hr, _⟩ := hs (off + j) p hp
          rw [hu] at hv; cases hv
          exact hr
        · simp at hp
      · simp only [List.getElem?_toArray] at hv
        rw [List.getElem?_take] at hv
        split at hv
        · rename_i hlt
          rw [List.getElem?_drop] at hv
          have : off + j < cs.length := by
            have := (List.getElem?_eq_some_iff.1 hv).1
            omega
          obtain ⟨u, hu, _, _, h1⟩ := hs (off + j) _ (List.getElem?_eq_getElem this)
          rw [hu] at hv; cases hv
          exact h1
        · simp at hv
    · cases hp
  | false =>
    rw [ha] at hp
    simp only [Bool.false_eq_true, if_false] at hp ⊢
    obtain ⟨v, hv, hr, _⟩ := h off r hp
    refine ⟨v, ?_, hr⟩
    rw [run_load]
    simp [hv]
theorem partP_partA {ag : Bool} {n off : Nat} {p q : PV} (h : partP ag n off p = some q) : partA ag n off (p.cells.map .pv) = some (.pv q) := by
  unfold partP at h
  cases ag with
  | true =>
    simp only [if_true] at h
    cases p with
    | agg cs =>
      show (if off + n ≤ (cs.map AV.pv).length then some (mkAgg (((cs.map AV.pv).drop off).take n)) else none) = some (.pv q)
      simp only at h
      split at h
      · rename_i hc
        cases h
        rw [if_pos (by simp; omega)]
        rw [hc.1]
        simp only [List.drop_zero]
        rw [List.take_of_length_le (by simp; omega)]
        simp [mkAgg, allPv_of_map]
      · split at h
        · rename_i hle
          cases h
          rw [if_pos (by simpa using hle)]
          have e : ((cs.map AV.pv).drop off).take n = ((cs.drop off).take n).map .pv := by simp
          rw [e]
          unfold mkAgg
          rw [allPv_of_map]
        · cases h
    | _ => simp at h
  | false =>
    simp only [Bool.false_eq_true, if_false] at h
    simp [partA, h]

end Go.Sv
