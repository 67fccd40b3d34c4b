/- Regions that draw their order. No program stands in this text. -/
import Derived.Test.YthkedonibhajbaaDoorSvO4
import Derived.Orders
set_option linter.unusedVariables false
set_option linter.unusedSimpArgs false
namespace Go.Sv
open Go Go.RowKit

theorem wanted_of' {ops : Array Oper} {m : Mp} {K : KS} {env : Env} {tmps : Array Value} {o : Oper} (hE : ∀ t, t ∈ guardTmp ops.toList o → ARep m K (getE env t) (tmps.getD t undef)) {b : Bool} (h : wantedA ops.toList env o = some b) : Region.wanted o (yielded ops tmps) = b := by
  unfold wantedA at h
  unfold Region.wanted
  split at h
  · rename_i hg
    cases h
    simp [hg]
  · rename_i j want hg
    simp only [hg]
    split at h
    · rename_i oj hj
      split at h
      · rename_i d hd
        have hEd := hE d (by unfold guardTmp; simp [hg, hj, hd])
        have hop : (ops[j]?).bind (·.dst) = some d := by
          have : ops[j]? = some oj := by simpa using hj
          simp [this, hd]
        split at h
        · rename_i v hv
          rw [hv] at hEd
          have hvv := hEd.pv_inv.bool_inv
          have hsome : tmps[d]? = some (.bool v) := by
            rw [Array.getD_eq_getD_getElem?] at hvv
            cases hq : tmps[d]? with
            | none => rw [hq] at hvv; simp [undef] at hvv
            | some x => rw [hq] at hvv; simp at hvv; rw [hvv]
          have hy : yielded ops tmps j = some v := by
            unfold yielded
            rw [hop]
            simp [hsome]
          rw [hy]
          split at h
          · cases h; rfl
          · cases h; rfl
          · rename_i h1 h2
            cases h
            cases v <;> cases want <;> first | rfl | exact (h1 rfl rfl).elim | exact (h2 rfl rfl).elim
        · rename_i hv
          rw [hv] at hEd
          cases h
          have hvv : tmps.getD d undef = .tuple #[] := by
            generalize tmps.getD d undef = q at hEd
            cases hEd with
            | tup _ vs hl hr =>
              have : vs = #[] := Array.eq_empty_of_size_eq_zero (by simpa using hl.symm)
              rw [this]
          have hy : yielded ops tmps j = none := by
            unfold yielded
            rw [hop]
            rw [Array.getD_eq_getD_getElem?] at hvv
            cases hq : tmps[d]? with
            | none => simp [hq]
            | some x => rw [hq] at hvv; simp at hvv; simp [hq, hvv]
          rw [hy]
          rfl
        · cases h
      · cases h
    · cases h
theorem opK_congr {C : Ctx} {o : Oper} {e e' : Operand → AV} {σ : Store} {k : AV → Store → Prop} (h : Same (opTmps o.op) e e') (ha : opK C o e σ k) : opK C o e' σ k := by
  unfold opK at *
  split at ha
  · rename_i hc
    have : calleeOf C e o = calleeOf C e' o := by
      unfold calleeOf
      split
      · rename_i f args ts ho
        have h1 : e f = e' f := h.op (fun t ht => by rw [ho]; simp [opTmps, ht])
        have h2 : args.toList.map e = args.toList.map e' := h.list (fun t ht => by rw [ho]; simp [opTmps, ht])
        rw [h1, h2]
      · rfl
    rw [← this]
    exact ha
  · exact aopK_congr h ha

abbrev Lst (listed : Array Bool) (j : Nat) : Prop := listed.getD j true = true
/-- What is reckoned behind the quiet operations that come next. -/
def reck (C : Ctx) (ops : List Oper) (bs : List Nat) (Dq : Nat) : Nat := Nat.lor Dq (bitsOf (nextQuiet C (loudBits C 0 ops) Dq 0 ops bs))
/-- Where a region stands whose order is drawn: 'listed' is done; 'reck ..' is reckoned. -/
structure St (C : Ctx) (N n : Nat) (ops : List Oper) (bs : List Nat) (m0 : Mp) (K0 : KS) (listed : Array Bool) (Dq : Nat) (env : Env) (σ : Store) (S Sact : List SObj) (pos : Nat → Nat) (m : Mp) (K : KS) (a : Act) (w : World) : Prop where
  sz : listed.size = ops.length
  sub : ∀ (j : Nat) o, ops[j]? = some o → Lst listed j → hasBit (reck C ops bs Dq) j = true
  loud : ∀ (j : Nat) o, ops[j]? = some o → opKind C o = 3 → hasBit (reck C ops bs Dq) j = true → Lst listed j
  dcl : ∀ (i : Nat) o, ops[i]? = some o → hasBit (reck C ops bs Dq) i = true → ∀ j, hasBit (nthN bs i) j = true → hasBit (reck C ops bs Dq) j = true
  closed : ∀ (i : Nat) o, ops[i]? = some o → Lst listed i → ∀ j, hasBit (nthN bs i) j = true → Lst listed j
  at_ : Bears C m K (σ ++ Sact) w ∧ n ≤ σ.length ∧ a.tmps.size = N ∧ a.defers = [] ∧ Le n m0 K0 m K
  env_ : ∀ s, (∀ (j : Nat) o, ops[j]? = some o → o.dst = some s → Lst listed j ∨ hasBit (reck C ops bs Dq) j = false) → ARep m K (getE env s) (a.tmps.getD s undef)
  done : ∀ (j : Nat) o, ops[j]? = some o → hasBit (reck C ops bs Dq) j = true → ¬ Lst listed j → Done C N ops o env σ S (pos j)
  lays : ∀ (j : Nat) o, ops[j]? = some o → hasBit (reck C ops bs Dq) j = true → ¬ Lst listed j → Lays C ops env o → pos j < S.length ∧ Sact[pos j]? = some .gone ∧ ∀ ver, m (σ.length + pos j) ver = none
  act : Sact.length = S.length ∧ ∀ q, q < S.length → Sact[q]? = S[q]? ∨ ∃ j o, ops[j]? = some o ∧ hasBit (reck C ops bs Dq) j = true ∧ ¬ Lst listed j ∧ Lays C ops env o ∧ pos j = q
  inj : ∀ (i : Nat) o (j : Nat) p, ops[i]? = some o → ops[j]? = some p → hasBit (reck C ops bs Dq) i = true → hasBit (reck C ops bs Dq) j = true → ¬ Lst listed i → ¬ Lst listed j → Lays C ops env o → Lays C ops env p → pos i = pos j → i = j
theorem lst_set {listed : Array Bool} {i j : Nat} (hi : i < listed.size) : Lst (listed.setIfInBounds i true) j ↔ j = i ∨ Lst listed j := by
  unfold Lst
  by_cases e : j = i
  · subst e
    simp [Array.getD_eq_getD_getElem?, hi]
  · have : (listed.setIfInBounds i true).getD j true = listed.getD j true := by
      simp [Array.getD_eq_getD_getElem?, Array.getElem?_setIfInBounds_ne (Ne.symm e)]
    rw [this]; simp [e]
/-- What must stand ahead of an operation that may come next is done. -/
theorem St.ahead {C : Ctx} {N n : Nat} {ops : List Oper} {bs : List Nat} (hR : Rg C ops bs) {m0 K0 listed Dq env σ S Sact pos m K a w} (hS : St C N n ops bs m0 K0 listed Dq env σ S Sact pos m K a w) {i : Nat} {o : Oper} (ho : ops[i]? = some o)
    (hr : ∀ e ∈ o.after.toList, bindsAny e = true → Lst listed e.on) : ∀ j, hasBit (nthN bs i) j = true → Lst listed j := by
  intro j hj
  obtain ⟨e, he, hb, h⟩ := hR.bef i o ho j hj
  have hl := hr e he hb
  rcases h with rfl | h
  · exact hl
  · have hlt := hR.edges i o ho e he hb
    have hlen : i < ops.length := (List.getElem?_eq_some_iff.1 ho).1
    exact hS.closed e.on _ (List.getElem?_eq_getElem (by omega)) hl j h
/-- The slots that an operation looks at are known, if what stands ahead is done. -/
theorem St.slots {C : Ctx} {N n : Nat} {ops : List Oper} {bs : List Nat} (hR : Rg C ops bs) {m0 K0 listed Dq env σ S Sact pos m K a w} (hS : St C N n ops bs m0 K0 listed Dq env σ S Sact pos m K a w) {i : Nat} {o : Oper} (ho : ops[i]? = some o)
    (hah : ∀ j, hasBit (nthN bs i) j = true → Lst listed j) (hu : ¬ Lst listed i) : ∀ t, t ∈ looks ops o → ARep m K (getE env t) (a.tmps.getD t undef) := by
  intro t ht
  refine hS.env_ t fun j p hp hd => ?_
  by_cases e : i = j
  · subst e
    rw [ho] at hp; cases hp
    exact absurd ht (hR.self i o t ho hd)
  · rcases hR.reads i o j p t ho hp e hd ht with h1 | h1
    · exact .inl (hah j h1)
    · right
      cases hq : hasBit (reck C ops bs Dq) j with
      | false => rfl
      | true => exact absurd (hS.closed j p hp (hS.loud j p hp h1.2 hq) i h1.1) hu
open Classical in
/-- The operands of an operation, as far as they are known. -/
theorem known {C : Ctx} {m : Mp} {K : KS} {σ : Store} {w : World} (hB : Bears C m K σ w) {env : Env} {a : Act} {ts : List Nat} (h : ∀ t, t ∈ ts → ARep m K (getE env t) (a.tmps.getD t undef)) :
    ∃ e : Operand → AV, Same ts (ev C env) e ∧ ∀ x, ARep m K (e x) (a.eval x) := by
  refine ⟨fun x => match x with
    | .tmp t => if t ∈ ts then getE env t else .dead
    | x => ev C env x, ⟨fun t ht => by simp [ht, ev], fun x hx => by cases x <;> first | rfl | simp [tmpOf] at hx⟩, fun x => ?_⟩
  cases x with
  | tmp t =>
    simp only
    split
    · rename_i ht; exact h t ht
    · exact .dead _
  | const v => exact ofValue_rep m K v
  | global g =>
    simp only [ev, Act.eval]
    cases hg : C.glob g with
    | none => exact .dead _
    | some a => exact hB.glob g a hg
  | func f => exact .pv _ _ (.raw _ rfl)
theorem put_getD {a : Act} {dst : Option Tmp} {v : Value} {s : Nat} (h : dst ≠ some s) : (a.put dst v).tmps.getD s undef = a.tmps.getD s undef := by
  cases dst with
  | none => rfl
  | some d =>
    have : d ≠ s := fun e => h (by rw [e])
    simp only [Act.put]
    rw [getD_set, if_neg (by simp [this])]
theorem put_getD_self {a : Act} {d : Nat} {v : Value} (h : d < a.tmps.size) : (a.put (some d) v).tmps.getD d undef = v := by
  simp only [Act.put]
  rw [getD_set, if_pos ⟨rfl, h⟩]
theorem put_size {a : Act} {dst : Option Tmp} {v : Value} : (a.put dst v).tmps.size = a.tmps.size := by
  cases dst <;> simp [Act.put]
theorem put_defers' {a : Act} {dst : Option Tmp} {v : Value} : (a.put dst v).defers = a.defers := by
  cases dst <;> rfl
/-- A quiet operation that was reckoned is done. -/
theorem St.quiet {C : Ctx} {N n : Nat} {ops : List Oper} {bs : List Nat} (hR : Rg C ops bs) {m0 K0 listed Dq env σ S Sact pos m K a w} (hS : St C N n ops bs m0 K0 listed Dq env σ S Sact pos m K a w) {i : Nat} {o : Oper} (ho : ops[i]? = some o)
    (hah : ∀ j, hasBit (nthN bs i) j = true → Lst listed j) (hD : hasBit (reck C ops bs Dq) i = true) (hu : ¬ Lst listed i)
    {Sact' : List SObj} {m' : Mp} {w' : World} {v : Value} (hB : Bears C m' K (σ ++ Sact') w') (hx : Ext m K m' K)
    (hsame : (Sact' = Sact ∧ m' = m ∧ ¬ Lays C ops env o) ∨ (∃ ob, Lays C ops env o ∧ S[pos i]? = some ob ∧ Sact' = Sact.set (pos i) ob ∧ ∀ id, id ≠ σ.length + pos i → m' id = m id))
    (hv : ∀ d, o.dst = some d → d < N ∧ ARep m' K (getE env d) v) : St C N n ops bs m0 K0 (listed.setIfInBounds i true) Dq env σ S Sact' pos m' K (a.put o.dst v) w' := by
  have hlen : i < ops.length := (List.getElem?_eq_some_iff.1 ho).1
  have hset : ∀ j, Lst (listed.setIfInBounds i true) j ↔ j = i ∨ Lst listed j := fun j => lst_set (by rw [hS.sz]; exact hlen)
  obtain ⟨hB0, hn, hN, hdf, hle⟩ := hS.at_
  refine ⟨by simpa using hS.sz, fun j p hp hj => ?_, fun j p hp hk hj => ?_, hS.dcl, fun j p hp hj k hk => ?_, ⟨hB, hn, by rw [put_size]; exact hN, by rw [put_defers']; exact hdf, hle.trans (hx.le n)⟩, fun s hs => ?_, fun j p hp hj hu' => ?_, fun j p hp hj hu' hlay => ?_, ?_, ?_⟩
  · rcases (hset j).1 hj with rfl | hj
    · exact hD
    · exact hS.sub j p hp hj
  · exact (hset j).2 (.inr (hS.loud j p hp hk hj))
  · rcases (hset j).1 hj with rfl | hj
    · exact (hset k).2 (.inr (hah k hk))
    · exact (hset k).2 (.inr (hS.closed j p hp hj k hk))
  · by_cases hd : o.dst = some s
    · have := hv s hd
      rw [hd, put_getD_self (by rw [hN]; exact this.1)]
      exact this.2
    · rw [put_getD hd]
      refine (hS.env_ s fun j p hp hpd => ?_).mono hx
      rcases hs j p hp hpd with h | h
      · rcases (hset j).1 h with rfl | h
        · rw [ho] at hp; cases hp
          exact absurd hpd hd
        · exact .inl h
      · exact .inr h
  · exact hS.done j p hp hj (fun h => hu' ((hset j).2 (.inr h)))
  · have hul : ¬ Lst listed j := fun h => hu' ((hset j).2 (.inr h))
    have hne : j ≠ i := fun h => hu' ((hset j).2 (.inl h))
    obtain ⟨h1, h2, h3⟩ := hS.lays j p hp hj hul hlay
    rcases hsame with ⟨rfl, rfl, _⟩ | ⟨ob, hlay', hob, rfl, hm⟩
    · exact ⟨h1, h2, h3⟩
    · have hpne : pos i ≠ pos j := fun e => hne (hS.inj j p i o hp ho hj hD hul hu hlay hlay' e.symm)
      refine ⟨h1, by rw [List.getElem?_set_ne hpne]; exact h2, fun ver => ?_⟩
      rw [hm _ (by omega)]
      exact h3 ver
  · rcases hsame with ⟨rfl, rfl, hnl⟩ | ⟨ob, hlay', hob, rfl, hm⟩
    · refine ⟨hS.act.1, fun q hq => ?_⟩
      rcases hS.act.2 q hq with h | ⟨j, p, hp, hj, hul, hlay, hpos⟩
      · exact .inl h
      · by_cases e : j = i
        · subst e
          rw [ho] at hp; cases hp
          exact absurd hlay hnl
        · exact .inr ⟨j, p, hp, hj, fun h => by rcases (hset j).1 h with h | h; exact e h; exact hul h, hlay, hpos⟩
    · refine ⟨by simpa using hS.act.1, fun q hq => ?_⟩
      by_cases eq : pos i = q
      · subst eq
        left
        rw [List.getElem?_set_self (by rw [hS.act.1]; exact hq), hob]
      · rw [List.getElem?_set_ne eq]
        rcases hS.act.2 q hq with h | ⟨j, p, hp, hj, hul, hlay, hpos⟩
        · exact .inl h
        · have e : j ≠ i := fun e => eq (by rw [← e]; exact hpos)
          exact .inr ⟨j, p, hp, hj, fun h => by rcases (hset j).1 h with h | h; exact e h; exact hul h, hlay, hpos⟩
  · intro j p k q hp hq hj hk hul hul' h1 h2 h3
    exact hS.inj j p k q hp hq hj hk (fun h => hul ((hset j).2 (.inr h))) (fun h => hul' ((hset k).2 (.inr h))) h1 h2 h3

/-- What stands before a round begins. -/
structure Pre (C : Ctx) (N n : Nat) (ops : List Oper) (bs : List Nat) (m0 : Mp) (K0 : KS) (listed : Array Bool) (D : Nat) (env : Env) (σ : Store) (m : Mp) (K : KS) (a : Act) (w : World) : Prop where
  sz : listed.size = ops.length
  sub : ∀ (j : Nat) o, ops[j]? = some o → Lst listed j → hasBit D j = true
  loud : ∀ (j : Nat) o, ops[j]? = some o → opKind C o = 3 → hasBit D j = true → Lst listed j
  dcl : ∀ (i : Nat) o, ops[i]? = some o → hasBit D i = true → ∀ j, hasBit (nthN bs i) j = true → hasBit D j = true
  closed : ∀ (i : Nat) o, ops[i]? = some o → Lst listed i → ∀ j, hasBit (nthN bs i) j = true → Lst listed j
  at_ : At C N n m0 K0 m K [] σ a w
  env_ : ∀ s, (∀ (j : Nat) o, ops[j]? = some o → o.dst = some s → Lst listed j ∨ hasBit D j = false) → ARep m K (getE env s) (a.tmps.getD s undef)
  pend : ∀ (j : Nat) o, ops[j]? = some o → hasBit D j = true → ¬ Lst listed j → Done C N ops o env σ [] 0 ∧ ¬ Lays C ops env o
def Cont (C : Ctx) (N : Nat) (ops : List Oper) (bs : List Nat) (k : Env → Store → Prop) (fuel Dq : Nat) (env : Env) (σ : Store) (S : List SObj) : Prop :=
  match nextLoud C Dq 0 ops bs with
  | none => k env (appS σ S)
  | some (i, o, b) => ploud C N ops i o b (reck C ops bs Dq) env (appS σ S) fun env σ => prounds C N ops bs (loudBits C 0 ops) fuel (Nat.lor (reck C ops bs Dq) (Nat.pow 2 i)) env σ k
theorem Lays.congr {C : Ctx} {ops : List Oper} {env env' : Env} {o : Oper} (h : Lays C ops env o) (hl : ∀ t, t ∈ looks ops o → getE env t = getE env' t) : Lays C ops env' o := ⟨h.1, by rw [← wantedA_congr hl]; exact h.2⟩
theorem Pre.enter {C : Ctx} {N n : Nat} {ops : List Oper} {bs : List Nat} (hR : Rg C ops bs) (hbl : bs.length = ops.length) {m0 K0 listed D env σ m K a w} (hP : Pre C N n ops bs m0 K0 listed D env σ m K a w) {fuel : Nat} {k : Env → Store → Prop}
    (h : prounds C N ops bs (loudBits C 0 ops) fuel D env σ k) : ∃ env' S Sact pos fuel', St C N n ops bs m0 K0 listed D env' σ S Sact pos m K a w ∧ Cont C N ops bs k fuel' D env' σ S := by
  cases fuel with
  | zero => exact h.elim
  | succ fuel =>
    simp only [prounds] at h
    have hspec := nextQuiet_spec (C := C) (loud := loudBits C 0 ops) (done := D) ops bs 0 hbl.symm
    have hin : ∀ x ∈ nextQuiet C (loudBits C 0 ops) D 0 ops bs, ops[x.1]? = some x.2 ∧ opKind C x.2 ≠ 3 := by
      intro x hx
      obtain ⟨k', o, rfl, h1, _, h2, _⟩ := (hspec x).1 hx
      exact ⟨by simpa using h1, h2⟩
    obtain ⟨env', S', pos, g1, g2, g3, g4, g5, g6, g7, g8⟩ := pquiet_open hR _ env [] _ h hin (nextQuiet_sorted ops bs 0 hbl.symm)
    have hreck : ∀ j, hasBit (reck C ops bs D) j = true ↔ hasBit D j = true ∨ ∃ o, (j, o) ∈ nextQuiet C (loudBits C 0 ops) D 0 ops bs := by
      intro j
      unfold reck
      rw [hasBit_lor, Bool.or_eq_true, bitsOf_spec]
    have hfresh : ∀ x ∈ nextQuiet C (loudBits C 0 ops) D 0 ops bs, hasBit D x.1 = false := by
      intro x hx
      obtain ⟨k', o, rfl, _, h1, _⟩ := (hspec x).1 hx
      exact h1
    have hmem : ∀ (j : Nat) o, ops[j]? = some o → (∃ p, (j, p) ∈ nextQuiet C (loudBits C 0 ops) D 0 ops bs) → (j, o) ∈ nextQuiet C (loudBits C 0 ops) D 0 ops bs := by
      rintro j o ho ⟨p, hp⟩
      have := (hin _ hp).1
      simp only at this
      rw [ho] at this; cases this
      exact hp
    -- what was reckoned before looks at no slot that is new
    have hold : ∀ (j : Nat) o, ops[j]? = some o → hasBit D j = true → (∀ t, t ∈ looks ops o → getE env t = getE env' t) ∧ ∀ d, o.dst = some d → getE env d = getE env' d := by
      intro j o ho hj
      refine ⟨fun t ht => (g2 t fun x hx e => ?_).symm, fun d hd => (g2 d fun x hx e => ?_).symm⟩
      · have hx1 := (hin x hx).1
        have hxf := hfresh x hx
        by_cases hjx : j = x.1
        · subst hjx; rw [hj] at hxf; cases hxf
        · rcases hR.reads j o x.1 x.2 t ho hx1 hjx e ht with h1 | h1
          · have := hP.dcl j o ho hj x.1 h1
            rw [this] at hxf; cases hxf
          · exact (hin x hx).2 h1.2
      · have hx1 := (hin x hx).1
        have hxf := hfresh x hx
        have := hR.once j o x.1 x.2 d ho hx1 hd e
        subst this
        rw [hj] at hxf; cases hxf
    have hunl : ∀ x ∈ nextQuiet C (loudBits C 0 ops) D 0 ops bs, ¬ Lst listed x.1 := by
      intro x hx hl
      have := hP.sub x.1 x.2 (hin x hx).1 hl
      rw [hfresh x hx] at this; cases this
    have hnew : ∀ (j : Nat) o, ops[j]? = some o → hasBit (reck C ops bs D) j = true → ¬ Lst listed j → Lays C ops env' o → (j, o) ∈ nextQuiet C (loudBits C 0 ops) D 0 ops bs := by
      intro j o ho hj hu hlay
      rcases (hreck j).1 hj with h1 | h1
      · exfalso
        obtain ⟨q1, _⟩ := hold j o ho h1
        exact (hP.pend j o ho h1 hu).2 (hlay.congr fun t ht => (q1 t ht).symm)
      · exact hmem j o ho h1
    obtain ⟨hB, hn, hN, _, hdf, hle⟩ := hP.at_
    refine ⟨env', S', List.replicate S'.length .gone, pos, fuel, ⟨hP.sz, fun j o ho hl => (hreck j).2 (.inl (hP.sub j o ho hl)), fun j o ho hk hj => ?_, fun i o ho hi j hj => ?_, hP.closed, ⟨hB.more _, hn, hN, hdf, hle⟩, fun s hs => ?_,
      fun j o ho hj hu => ?_, fun j o ho hj hu hlay => ?_, ⟨by simp, fun q hq => ?_⟩, fun i o j p ho hp hi hj hui huj hli hlj e => ?_⟩, g1⟩
    · rcases (hreck j).1 hj with h1 | h1
      · exact hP.loud j o ho hk h1
      · exact absurd hk (hin _ (hmem j o ho h1)).2
    · rcases (hreck i).1 hi with h1 | h1
      · exact (hreck j).2 (.inl (hP.dcl i o ho h1 j hj))
      · have hx := hmem i o ho h1
        obtain ⟨k', p, e, hp, _, _, hl⟩ := (hspec _).1 hx
        simp only [Nat.zero_add, Prod.mk.injEq] at e
        obtain ⟨rfl, rfl⟩ := e
        have hjlt := hR.lt ho hj
        have hlen : i < ops.length := (List.getElem?_eq_some_iff.1 ho).1
        have hoj : ops[j]? = some ops[j] := List.getElem?_eq_getElem (by omega)
        refine (hreck j).2 ?_
        by_cases hDj : hasBit D j = true
        · exact .inl hDj
        · right
          have hkj : opKind C ops[j] ≠ 3 := by
            intro hk3
            exact hDj (hl j hj ((loudBits_spec ops 0 j).2 ⟨j, _, by omega, hoj, hk3⟩))
          refine ⟨ops[j], (hspec _).2 ⟨j, ops[j], by simp, hoj, by simpa using hDj, hkj, fun q hq hlq => hl q (hR.trans ho hj hq) hlq⟩⟩
    · rw [g2 s fun x hx e => (by
        rcases hs x.1 x.2 (hin x hx).1 e with h | h
        · exact hunl x hx h
        · have := (hreck x.1).2 (.inr ⟨x.2, hx⟩)
          rw [h] at this; cases this)]
      refine hP.env_ s fun j o ho hd => ?_
      rcases hs j o ho hd with h | h
      · exact .inl h
      · right
        cases hq : hasBit D j with
        | false => rfl
        | true => rw [(hreck j).2 (.inl hq)] at h; cases h
    · rcases (hreck j).1 hj with h1 | h1
      · obtain ⟨q1, q2⟩ := hold j o ho h1
        obtain ⟨hd, hnl⟩ := hP.pend j o ho h1 hu
        have hd' := hd.congr (S' := []) q1 q2 (fun ob h => by simp at h)
        cases hd' with
        | quiet a b c d => exact .quiet a b c d
        | skip a b => exact .skip a b
        | lays a b ob c d e => simp at d
      · exact g5 _ (hmem j o ho h1)
    · have hx := hnew j o ho hj hu hlay
      have := g6 _ hx hlay
      refine ⟨this.2, by rw [List.getElem?_replicate, if_pos this.2], fun ver => ?_⟩
      cases hm : m (σ.length + pos j) ver with
      | none => rfl
      | some l => have := hB.dom _ _ _ hm; omega
    · obtain ⟨x, hx, hlay, hp⟩ := g8 q (by simp) hq
      exact .inr ⟨x.1, x.2, (hin x hx).1, (hreck _).2 (.inr ⟨x.2, hx⟩), hunl x hx, hlay, hp⟩
    · exact g7 _ (hnew i o ho hi hui hli) _ (hnew j p hp hj huj hlj) hli hlj e

theorem binds_any (e : Edge) : Region.binds .any e = bindsAny e := by
  unfold Region.binds bindsAny
  cases e.ground <;> rfl
theorem lst_of {listed : Array Bool} {i : Nat} (h : listed.getD i false = true) : Lst listed i := by
  unfold Lst
  rw [Array.getD_eq_getD_getElem?] at *
  cases hq : listed[i]? with
  | none => rw [hq] at h; cases h
  | some b => rw [hq] at h; simpa using h
theorem St.full {C : Ctx} {N n : Nat} {ops : List Oper} {bs : List Nat} {m0 K0 listed Dq env σ S Sact pos m K a w} (hS : St C N n ops bs m0 K0 listed Dq env σ S Sact pos m K a w)
    (hno : ∀ (j : Nat) o, ops[j]? = some o → hasBit (reck C ops bs Dq) j = true → ¬ Lst listed j → ¬ Lays C ops env o) : σ ++ Sact = appS σ S := by
  have e : Sact = S := by
    apply List.ext_getElem?
    intro q
    by_cases hq : q < S.length
    · rcases hS.act.2 q hq with h | ⟨j, o, ho, hj, hu, hl, _⟩
      · exact h
      · exact absurd hl (hno j o ho hj hu)
    · rw [List.getElem?_eq_none (by rw [hS.act.1]; omega), List.getElem?_eq_none (by omega)]
  subst e
  unfold appS
  cases Sact with
  | nil => simp
  | cons x r => rfl
/-- Behind a loud operation, the next round. -/
theorem St.next {C : Ctx} {N n : Nat} {ops : List Oper} {bs : List Nat} (hR : Rg C ops bs) {m0 K0 listed Dq env σ S Sact pos m K a w} (hS : St C N n ops bs m0 K0 listed Dq env σ S Sact pos m K a w) {l : Nat} {o : Oper} (ho : ops[l]? = some o)
    (hah : ∀ j, hasBit (nthN bs l) j = true → Lst listed j) (hD : hasBit (reck C ops bs Dq) l = false) (hno : ∀ (j : Nat) o, ops[j]? = some o → hasBit (reck C ops bs Dq) j = true → ¬ Lst listed j → ¬ Lays C ops env o)
    {m' : Mp} {K' : KS} {σ' : Store} {w' : World} {v : AV} {x : Value} {env1 : Env} (hB : Bears C m' K' σ' w') (hlen : (appS σ S).length ≤ σ'.length) (hle : Le (appS σ S).length m K m' K') (hx : ARep m' K' v x)
    (hput : (o.dst = none ∧ env1 = env) ∨ ∃ d, o.dst = some d ∧ env1 = putE env d v) (hdn : ∀ d, o.dst = some d → d < N ∧ getE env1 d = v)
    (hpend : ∀ (j : Nat) p, ops[j]? = some p → hasBit (reck C ops bs Dq) j = true → ¬ Lst listed j → (opKind C p = 0 ∨ opKind C p = 1) → wantedA ops env1 p = some true → (aopK C p (ev C env) σ fun v _ => ∀ d, p.dst = some d → v = getE env d) →
      aopK C p (ev C env1) σ' fun v _ => ∀ d, p.dst = some d → v = getE env1 d) :
    Pre C N n ops bs m0 K0 (listed.setIfInBounds l true) (Nat.lor (reck C ops bs Dq) (Nat.pow 2 l)) env1 σ' m' K' (a.put o.dst x) w' := by
  have hll : l < ops.length := (List.getElem?_eq_some_iff.1 ho).1
  have hset : ∀ j, Lst (listed.setIfInBounds l true) j ↔ j = l ∨ Lst listed j := fun j => lst_set (by rw [hS.sz]; exact hll)
  have hbit : ∀ j, hasBit (Nat.lor (reck C ops bs Dq) (Nat.pow 2 l)) j = true ↔ hasBit (reck C ops bs Dq) j = true ∨ l = j := by
    intro j; rw [hasBit_lor, hasBit_pow, Bool.or_eq_true, decide_eq_true_eq]
  obtain ⟨hB0, hn, hN, hdf, hle0⟩ := hS.at_
  have hfull := hS.full hno
  have hext : Ext m K m' K' := hle.ext (by rw [hfull] at hB0; exact hB0)
  have hnn : n ≤ (appS σ S).length := by
    rw [← hfull]; simp; omega
  refine ⟨by simpa using hS.sz, fun j p hp hj => ?_, fun j p hp hk hj => ?_, fun i p hp hi j hj => ?_, fun j p hp hj k hk => ?_, ⟨hB, Nat.le_trans hnn hlen, by rw [put_size]; exact hN, fun t => .dead _, by rw [put_defers']; exact hdf, hle0.trans (hle.less hnn)⟩, fun s hs => ?_, fun j p hp hj hu => ?_⟩
  · rcases (hset j).1 hj with rfl | hj
    · exact (hbit _).2 (.inr rfl)
    · exact (hbit _).2 (.inl (hS.sub j p hp hj))
  · rcases (hbit j).1 hj with h | rfl
    · exact (hset j).2 (.inr (hS.loud j p hp hk h))
    · exact (hset _).2 (.inl rfl)
  · rcases (hbit i).1 hi with h | rfl
    · exact (hbit j).2 (.inl (hS.dcl i p hp h j hj))
    · have hl := hah j hj
      have hjlt := hR.lt ho hj
      exact (hbit j).2 (.inl (hS.sub j _ (List.getElem?_eq_getElem (by omega)) hl))
  · rcases (hset j).1 hj with rfl | hj
    · exact (hset k).2 (.inr (hah k hk))
    · exact (hset k).2 (.inr (hS.closed j p hp hj k hk))
  · by_cases hd : o.dst = some s
    · have := hdn s hd
      rw [hd, put_getD_self (by rw [hN]; exact this.1), this.2]
      exact hx
    · rw [put_getD hd, getE_put_ne hput hd]
      refine (hS.env_ s fun j p hp hpd => ?_).mono hext
      rcases hs j p hp hpd with h | h
      · rcases (hset j).1 h with rfl | h
        · rw [ho] at hp; cases hp
          exact absurd hpd hd
        · exact .inl h
      · right
        cases hq : hasBit (reck C ops bs Dq) j with
        | false => rfl
        | true => rw [(hbit j).2 (.inl hq)] at h; cases h
  · have hul : ¬ Lst listed j := fun h => hu ((hset j).2 (.inr h))
    have hjl : j ≠ l := fun h => hu ((hset j).2 (.inl h))
    have hjD : hasBit (reck C ops bs Dq) j = true := by
      rcases (hbit j).1 hj with h | h
      · exact h
      · exact absurd h.symm hjl
    -- the slots that it looks at are not the loud one's
    have hlk : ∀ t, t ∈ looks ops p → getE env t = getE env1 t := by
      intro t ht
      refine (getE_put_ne hput fun e => ?_).symm
      rcases hR.reads j p l o t hp ho hjl e ht with h1 | h1
      · have := hS.dcl j p hp hjD l h1
        rw [hD] at this; cases this
      · exact hul (hah j h1.1)
    have hds : ∀ d, p.dst = some d → getE env d = getE env1 d := by
      intro d hd
      refine (getE_put_ne hput fun e => ?_).symm
      exact hjl (hR.once j p l o d hp ho hd e)
    have hnl : ¬ Lays C ops env1 p := fun h => hno j p hp hjD hul (h.congr fun t ht => (hlk t ht).symm)
    refine ⟨?_, hnl⟩
    cases hS.done j p hp hjD hul with
    | quiet hk hw hd h =>
      have hw1 : wantedA ops env1 p = some true := by rw [← wantedA_congr hlk]; exact hw
      exact .quiet hk hw1 hd (hpend j p hp hjD hul hk hw1 h)
    | skip hw h => exact .skip (by rw [← wantedA_congr hlk]; exact hw) fun d hd => ⟨(h d hd).1, by rw [← hds d hd]; exact (h d hd).2⟩
    | lays hk hw ob hob hSp h => exact absurd ⟨hk, hw⟩ (hno j p hp hjD hul)
theorem stays_get {C : Ctx} {ops : List Oper} {b done : Nat} {env : Env} {σ : Store} {k : Prop} : ∀ (i : Nat) (r : List Oper), stays C ops b done env σ i r k → k ∧ ∀ (j : Nat) p, r[j]? = some p → hasBit done (i + j) = true → opKind C p = 1 → hasBit b (i + j) = false → wantedA ops env p = some true →
      aopK C p (ev C env) σ fun v _ => ∀ d, p.dst = some d → v = getE env d
  | i, [], h => ⟨h, fun j p hp => by simp at hp⟩
  | i, o :: r, h => by
    simp only [stays] at h
    split at h
    · rename_i hc
      obtain ⟨h1, h2⟩ := stays_get (i + 1) r h.2
      refine ⟨h1, fun j p hp hd hk hb hw => ?_⟩
      cases j with
      | zero =>
        simp at hp; subst hp
        have := h.1
        rw [hw] at this
        simp only at this
        refine aopK_mono this fun v σ' hv _ d hd => ?_
        rw [hd] at hv
        exact hv
      | succ j => exact h2 j p (by simpa using hp) (by rw [show i + 1 + j = i + (j + 1) by omega]; exact hd) hk (by rw [show i + 1 + j = i + (j + 1) by omega]; exact hb) hw
    · rename_i hc
      obtain ⟨h1, h2⟩ := stays_get (i + 1) r h
      refine ⟨h1, fun j p hp hd hk hb hw => ?_⟩
      cases j with
      | zero =>
        simp at hp; subst hp
        rw [Nat.add_zero] at hd hb
        rw [hd, hb, hk] at hc
        simp at hc
      | succ j => exact h2 j p (by simpa using hp) (by rw [show i + 1 + j = i + (j + 1) by omega]; exact hd) hk (by rw [show i + 1 + j = i + (j + 1) by omega]; exact hb) hw
theorem grown_app (σ S : Store) : Grown σ (appS σ S) := by
  intro id x h
  unfold appS
  cases S with
  | nil => exact h
  | cons y r => simp only; rw [List.getElem?_append_left (List.getElem?_eq_some_iff.1 h).1]; exact h
theorem least {P : Nat → Prop} {n : Nat} (h : P n) : ∃ u, P u ∧ ∀ v, v < u → ¬ P v := by
  induction n using Nat.strongRecOn with
  | _ n ih =>
    by_cases hq : ∃ v, v < n ∧ P v
    · obtain ⟨v, hv, hp⟩ := hq
      exact ih v hv hp
    · exact ⟨n, h, fun v hv hp => hq ⟨v, hv, hp⟩⟩

theorem opKind_le (C : Ctx) (o : Oper) : opKind C o ≤ 3 := by
  unfold opKind
  split <;> try omega
  split
  · rename_i ti _
    cases ti.td <;> simp [convKind]
  · omega
theorem any_sound {C : Ctx} (hC : CtxOK C) {N n : Nat} {ops : Array Oper} {bs : List Nat} (hR : Rg C ops.toList bs) (hbl : bs.length = ops.toList.length) {m0 : Mp} {K0 : KS} {Q : Exit → Env → Store → Prop} : ∀ (fuelA : Nat) (listed : Array Bool) (U : List Nat) (Dq : Nat) (env : Env) (σ : Store) (S Sact : List SObj) (pos : Nat → Nat) (m : Mp) (K : KS) (a : Act) (w : World) (fuel : Nat),
    St C N n ops.toList bs m0 K0 listed Dq env σ S Sact pos m K a w → Cont C N ops.toList bs (Q .normal) fuel Dq env σ S → U.Nodup → (∀ i, i ∈ U ↔ i < ops.toList.length ∧ ¬ Lst listed i) → U.length = fuelA →
      wpAny C.P .any ops (SPost C N n m0 K0 Q) fuelA listed a w
  | 0, listed, U, Dq, env, σ, S, Sact, pos, m, K, a, w, fuel, hS, hc, hnd, hU, hlen => by
    have hU0 : U = [] := List.eq_nil_of_length_eq_zero hlen
    subst hU0
    have hall : ∀ i, i < ops.toList.length → Lst listed i := fun i hi => Classical.byContradiction fun h => by have := (hU i).2 ⟨hi, h⟩; simp at this
    refine ⟨?_, ?_⟩
    · cases hr : Region.ready .any ops listed with
      | nil => rfl
      | cons j r =>
        have hj : j ∈ Region.ready .any ops listed := by rw [hr]; simp
        obtain ⟨h0, o, ho, _⟩ := mem_ready.1 hj
        have := hall j (by have := (Array.getElem?_eq_some_iff.1 ho).1; simpa using this)
        unfold Lst at this
        rw [h0] at this; cases this
    · have hfull := hS.full (fun j o ho hj hu => absurd (hall j (List.getElem?_eq_some_iff.1 ho).1) hu)
      obtain ⟨hB, hn, hN, hdf, hle⟩ := hS.at_
      unfold Cont at hc
      split at hc
      · refine ⟨env, appS σ S, m, K, by rw [← hfull]; exact hB, by rw [← hfull]; simp; omega, hN, fun t => ?_, hdf, hle, hc⟩
        exact hS.env_ t fun j o ho _ => .inl (hall j (List.getElem?_eq_some_iff.1 ho).1)
      · rename_i i o b hnl
        exfalso
        obtain ⟨k, h1, h2, h3, h4, h5, h6⟩ := nextLoud_some hnl
        have hi : i = k := by omega
        subst hi
        have := hS.sub i o h2 (hall i (List.getElem?_eq_some_iff.1 h2).1)
        have hrk : hasBit (reck C ops.toList bs Dq) i = true := this
        unfold reck at hrk
        rw [hasBit_lor, Bool.or_eq_true, bitsOf_spec] at hrk
        rcases hrk with h | ⟨p, hp⟩
        · rw [h4] at h; cases h
        · obtain ⟨k', q, e, hq, _, hk3, _⟩ := (nextQuiet_spec _ _ 0 hbl.symm _).1 hp
          simp only [Nat.zero_add, Prod.mk.injEq] at e
          obtain ⟨rfl, rfl⟩ := e
          rw [h2] at hq; cases hq
          exact hk3 h5
  | fuelA + 1, listed, U, Dq, env, σ, S, Sact, pos, m, K, a, w, fuel, hS, hc, hnd, hU, hlen => by
    have hloudD : ∀ (i : Nat) o, ops.toList[i]? = some o → opKind C o = 3 → hasBit (reck C ops.toList bs Dq) i = true → hasBit Dq i = true := by
      intro i o ho hk hrk
      unfold reck at hrk
      rw [hasBit_lor, Bool.or_eq_true, bitsOf_spec] at hrk
      rcases hrk with h | ⟨p, hp⟩
      · exact h
      · obtain ⟨k', q, e, hq, _, hk3, _⟩ := (nextQuiet_spec _ _ 0 hbl.symm _).1 hp
        simp only [Nat.zero_add, Prod.mk.injEq] at e
        obtain ⟨rfl, rfl⟩ := e
        rw [ho] at hq; cases hq
        exact absurd hk hk3
    have hDr : ∀ i, hasBit Dq i = true → hasBit (reck C ops.toList bs Dq) i = true := by
      intro i h
      unfold reck
      rw [hasBit_lor, h]; rfl
    refine ⟨fun hnone => ?_, fun i hi => ?_⟩
    · -- something is left: the least is ready
      exfalso
      cases U with
      | nil => simp at hlen
      | cons u r =>
        have hu := (hU u).1 (by simp)
        obtain ⟨v, hv, hmin⟩ := least (P := fun v => v < ops.toList.length ∧ ¬ Lst listed v) hu
        have ho : ops.toList[v]? = some ops.toList[v] := List.getElem?_eq_getElem hv.1
        have : v ∈ Region.ready .any ops listed := by
          refine mem_ready.2 ⟨?_, ops.toList[v], by simp, fun e he hb => ?_⟩
          · have := hv.2
            unfold Lst at this
            simpa using this
          · rw [binds_any] at hb
            have hlt := hR.edges v _ ho e (by simpa using he) hb
            have hl : Lst listed e.on := Classical.byContradiction fun h => hmin e.on hlt ⟨by omega, h⟩
            unfold Lst at hl
            have hin : e.on < listed.size := by rw [hS.sz]; omega
            rw [Array.getD_eq_getD_getElem?] at *
            rw [Array.getElem?_eq_getElem hin] at *
            simpa using hl
        rw [hnone] at this; simp at this
    · obtain ⟨h0, o, ho, hall⟩ := mem_ready.1 hi
      have hol : ops.toList[i]? = some o := by simpa using ho
      have hu : ¬ Lst listed i := by unfold Lst; rw [h0]; simp
      have hah : ∀ j, hasBit (nthN bs i) j = true → Lst listed j := hS.ahead hR hol fun e he hb => lst_of (hall e (by simpa using he) (by rw [binds_any]; exact hb))
      have hslots := hS.slots hR hol hah hu
      obtain ⟨hB, hn, hN, hdf, hle⟩ := hS.at_
      obtain ⟨e', hsame, he'⟩ := known hB (ts := looks ops.toList o) hslots
      have hsame' : Same (opTmps o.op) (ev C env) e' := ⟨fun t ht => hsame.tmp t (by unfold looks; exact List.mem_append_left _ ht), hsame.other⟩
      have hgd : ∀ t, t ∈ guardTmp ops.toList o → ARep m K (getE env t) (a.tmps.getD t undef) := fun t ht => hslots t (by unfold looks; exact List.mem_append_right _ ht)
      have hil : i < ops.toList.length := (List.getElem?_eq_some_iff.1 hol).1
      -- what is left behind it
      have hset : ∀ j, Lst (listed.setIfInBounds i true) j ↔ j = i ∨ Lst listed j := fun j => lst_set (by rw [hS.sz]; exact hil)
      have hU' : ∀ j, j ∈ U.erase i ↔ j < ops.toList.length ∧ ¬ Lst (listed.setIfInBounds i true) j := by
        intro j
        rw [hnd.mem_erase_iff, hU, hset]
        constructor
        · rintro ⟨h1, h2, h3⟩
          exact ⟨h2, fun h => h.elim h1 h3⟩
        · rintro ⟨h1, h2⟩
          exact ⟨fun h => h2 (.inl h), h1, fun h => h2 (.inr h)⟩
      have hnd' : (U.erase i).Nodup := hnd.erase i
      have hlen' : (U.erase i).length = fuelA := by
        rw [List.length_erase_of_mem ((hU i).2 ⟨hil, hu⟩), hlen]; omega
      have go : ∀ {Sact' m' w' v}, St C N n ops.toList bs m0 K0 (listed.setIfInBounds i true) Dq env σ S Sact' pos m' K (a.put o.dst v) w' → wpAny C.P .any ops (SPost C N n m0 K0 Q) fuelA (listed.setIfInBounds i true) (a.put o.dst v) w' :=
        fun h => any_sound hC hR hbl fuelA _ (U.erase i) Dq env σ S _ pos _ K _ _ fuel h hc hnd' hU' hlen'
      unfold wpOp
      simp only [ho]
      by_cases hk : opKind C o = 3
      · -- the loud one whose turn it is
        have hDi : hasBit (reck C ops.toList bs Dq) i = false := by
          cases hq : hasBit (reck C ops.toList bs Dq) i with
          | false => rfl
          | true => exact absurd (hS.loud i o hol hk hq) hu
        unfold Cont at hc
        split at hc
        · rename_i hnl
          have := nextLoud_none hbl.symm hnl i o hol hk
          rw [Nat.zero_add] at this
          rw [hDr i this] at hDi; cases hDi
        · rename_i l o2 b hnl
          obtain ⟨kk, g1, g2, g3, g4, g5, g6⟩ := nextLoud_some hnl
          have e1 : l = kk := by omega
          subst e1
          have eil : i = l := by
            rcases Nat.lt_trichotomy i l with h | h | h
            · have := g6 i h o hol hk
              rw [Nat.zero_add] at this
              rw [hDr i this] at hDi; cases hDi
            · exact h
            · exfalso
              have hlu : ¬ Lst listed l := by
                intro hl
                have := hloudD l o2 g2 g5 (hS.sub l o2 g2 hl)
                rw [g4] at this; cases this
              rcases hR.loud i o l o2 hol g2 (by omega) hk (by rw [g5]; omega) with h1 | h1
              · exact hlu (hah l h1)
              · have := hR.lt g2 h1; omega
          subst eil
          rw [hol] at g2; cases g2
          have hno : ∀ (j : Nat) p, ops.toList[j]? = some p → hasBit (reck C ops.toList bs Dq) j = true → ¬ Lst listed j → ¬ Lays C ops.toList env p := by
            intro j p hp hj huj hlay
            have hji : i ≠ j := by
              intro e; subst e
              rw [hDi] at hj; cases hj
            rcases hR.loud i o j p hol hp hji hk (by rw [hlay.1]; omega) with h1 | h1
            · exact huj (hah j h1)
            · have := hS.dcl j p hp hj i h1
              rw [hDi] at this; cases this
          have hfull := hS.full hno
          have hB' : Bears C m K (appS σ S) w := by rw [← hfull]; exact hB
          unfold ploud at hc
          split at hc
          · rename_i hw
            rw [wanted_of' hgd hw]
            simp only [if_true]
            left
            unfold pop at hc
            refine op_sound hC hB' he' (opK_congr hsame' hc) ?_
            intro v σ' m' K' w' x hkk h1 h2 h3 h4
            obtain ⟨env1, hst, hput, hdn⟩ := putK_env (splitB_elim (shaped_elim hkk))
            obtain ⟨hrounds, hstay⟩ := stays_get 0 ops.toList hst
            have hpre := hS.next hR hol hah hDi hno h1 h2 h3 h4 hput hdn (fun j p hp hj huj hkj hwj hq => by
              rcases hkj with hkj | hkj
              · -- its operands alone
                have hji : j ≠ i := by
                  intro e; subst e
                  rw [hDi] at hj; cases hj
                have hlk : ∀ t, t ∈ looks ops.toList p → getE env t = getE env1 t := by
                  intro t ht
                  refine (getE_put_ne hput fun e => ?_).symm
                  rcases hR.reads j p i o t hp hol hji e ht with h1 | h1
                  · have := hS.dcl j p hp hj i h1
                    rw [hDi] at this; cases this
                  · exact huj (hah j h1.1)
                have hds : ∀ d, p.dst = some d → getE env d = getE env1 d := by
                  intro d hd
                  refine (getE_put_ne hput fun e => ?_).symm
                  exact hji (hR.once j p i o d hp hol hd e)
                have q1 := aopK_congr (ev_same hlk) hq
                have q2 := aopK_quiet (σ' := σ') (.inl hkj) (.inl hkj) q1
                exact aopK_mono q2 fun v _ hv _ d hd => by rw [← hds d hd]; exact hv.1 d hd
              · refine hstay j p hp (by rw [Nat.zero_add]; exact hj) hkj ?_ hwj
                rw [Nat.zero_add]
                cases hb : hasBit b j with
                | false => rfl
                | true => rw [g3] at hb; exact absurd (hah j hb) huj)
            obtain ⟨env2, S2, Sact2, pos2, fuel2, hS2, hc2⟩ := hpre.enter hR hbl hrounds
            exact any_sound hC hR hbl fuelA _ (U.erase i) _ env2 σ' S2 Sact2 pos2 m' K' _ w' fuel2 hS2 hc2 hnd' hU' hlen'
          · rename_i hw
            rw [wanted_of' hgd hw]
            simp only [Bool.false_eq_true, if_false]
            obtain ⟨env1, hrounds, hput, hdn⟩ := putK_env hc
            have hpre := hS.next hR hol hah hDi hno hB' (Nat.le_refl _) (Le.refl _ _ _) undef_rep hput hdn (fun j p hp hj huj hkj hwj hq => by
              have hji : j ≠ i := by
                intro e; subst e
                rw [hDi] at hj; cases hj
              have hlk : ∀ t, t ∈ looks ops.toList p → getE env t = getE env1 t := by
                intro t ht
                refine (getE_put_ne hput fun e => ?_).symm
                rcases hR.reads j p i o t hp hol hji e ht with h1 | h1
                · have := hS.dcl j p hp hj i h1
                  rw [hDi] at this; cases this
                · exact huj (hah j h1.1)
              have hds : ∀ d, p.dst = some d → getE env d = getE env1 d := by
                intro d hd
                refine (getE_put_ne hput fun e => ?_).symm
                exact hji (hR.once j p i o d hp hol hd e)
              have q1 := aopK_congr (ev_same hlk) hq
              have q2 := aopK_quiet (σ' := appS σ S) hkj (.inr (grown_app σ S)) q1
              exact aopK_mono q2 fun v _ hv _ d hd => by rw [← hds d hd]; exact hv.1 d hd)
            obtain ⟨env2, S2, Sact2, pos2, fuel2, hS2, hc2⟩ := hpre.enter hR hbl hrounds
            exact any_sound hC hR hbl fuelA _ (U.erase i) _ env2 _ S2 Sact2 pos2 m K _ w fuel2 hS2 hc2 hnd' hU' hlen'
          · exact hc.elim
      · -- a quiet one, that is reckoned
        have hDi : hasBit (reck C ops.toList bs Dq) i = true := by
          unfold reck
          rw [hasBit_lor, Bool.or_eq_true, bitsOf_spec]
          by_cases hq : hasBit Dq i = true
          · exact .inl hq
          · right
            refine ⟨o, (nextQuiet_spec _ _ 0 hbl.symm _).2 ⟨i, o, by simp, hol, by simpa using hq, hk, fun j hj hlj => ?_⟩⟩
            obtain ⟨k', p, e, hp, hkp⟩ := (loudBits_spec ops.toList 0 j).1 hlj
            have : j = k' := by omega
            subst this
            exact hloudD j p hp hkp (hS.sub j p hp (hah j hj))
        have hdone := hS.done i o hol hDi hu
        cases hdone with
        | quiet hkk hw hd h =>
          rw [wanted_of' hgd hw]
          simp only [if_true]
          left
          have hgr : Grown σ (σ ++ Sact) := fun id x h => by rw [List.getElem?_append_left (List.getElem?_eq_some_iff.1 h).1]; exact h
          have q1 := aopK_congr hsame' h
          have q2 := aopK_quiet (σ' := σ ++ Sact) hkk (.inr hgr) q1
          obtain ⟨v, x, hv, hrun, hrep⟩ := quiet_sound hC hB he' (P := fun v => ∀ d, o.dst = some d → v = getE env d) hkk (aopK_mono q2 fun v _ hv _ => hv.1)
          unfold Oper.wp
          rw [hrun]
          show wpAny _ _ _ _ _ _ (a.put o.dst x) w
          refine go (hS.quiet hR hol hah hDi hu hB (Ext.refl _ _) (.inl ⟨rfl, rfl, fun h => by have := h.1; omega⟩) fun d hd' => ⟨hd d hd', ?_⟩)
          rw [← hv d hd']
          exact hrep
        | skip hw h =>
          rw [wanted_of' hgd hw]
          simp only [Bool.false_eq_true, if_false]
          refine go (hS.quiet hR hol hah hDi hu hB (Ext.refl _ _) (.inl ⟨rfl, rfl, fun h => by have := h.2; rw [hw] at this; cases this⟩) fun d hd' => ⟨(h d hd').1, ?_⟩)
          rw [(h d hd').2]
          exact undef_rep
        | lays hk2 hw ob hob hSp h =>
          rw [wanted_of' hgd hw]
          simp only [if_true]
          left
          obtain ⟨p1, p2, p3⟩ := hS.lays i o hol hDi hu ⟨hk2, hw⟩
          have hobe : allocObj C o e' = some ob := by rw [← allocObj_congr hsame']; exact hob
          obtain ⟨x, w', m', hrun, hB', hx, hrep, hoth⟩ := alloc_sound hC hB he' hk2 hobe (p := σ.length + pos i) (by rw [List.length_append, hS.act.1]; omega) (by rw [List.getElem?_append_right (by omega)]; simpa using p2) p3
          have e1 : (σ ++ Sact).set (σ.length + pos i) ob = σ ++ Sact.set (pos i) ob := by
            rw [List.set_append_right _ _ (by omega)]
            congr 2; omega
          rw [e1] at hB'
          unfold Oper.wp
          rw [hrun]
          show wpAny _ _ _ _ _ _ (a.put o.dst x) w'
          refine go (hS.quiet hR hol hah hDi hu hB' hx (.inr ⟨ob, ⟨hk2, hw⟩, hSp, rfl, hoth⟩) fun d hd' => ⟨(h d hd').1, ?_⟩)
          rw [(h d hd').2]
          exact hrep
theorem draw_sound {C : Ctx} (hC : CtxOK C) (hm : C.P.follows .mixedOrders = true) {N n id : Nat} {ops : Array Oper} {env : Env} {σ : Store} {Q : Exit → Env → Store → Prop} (h : pdraw C N ops.toList env σ (Q .normal)) : Swp C N n (.region id ops true) env σ Q := by
  unfold pdraw at h
  split at h
  · rename_i bs hb
    split at h
    · rename_i hok
      simp only [Bool.and_eq_true] at hok
      obtain ⟨hR, hbl⟩ := Rg.of hb hok.2
      refine At.swp fun m0 K0 m K a w hA => wp_region_any hm ?_
      have hnl : ∀ i, i < ops.size → ¬ Lst (Array.replicate ops.size false) i := by
        intro i hi h
        unfold Lst at h
        rw [Array.getD_eq_getD_getElem?, Array.getElem?_replicate, if_pos hi] at h
        simp at h
      have hpre : Pre C N n ops.toList bs m0 K0 (Array.replicate ops.size false) 0 env σ m K a { w with drawn := w.drawn + 1 } := by
        refine ⟨by simp, fun j o ho hl => absurd hl (hnl j (by have := (List.getElem?_eq_some_iff.1 ho).1; simpa using this)), fun j o ho hk hj => (by rw [hasBit_zero] at hj; cases hj), fun i o ho hi => (by rw [hasBit_zero] at hi; cases hi),
          fun i o ho hl => absurd hl (hnl i (by have := (List.getElem?_eq_some_iff.1 ho).1; simpa using this)), ⟨hA.bears.of_heap rfl rfl rfl rfl, hA.len, hA.size, fun t => .dead _, hA.defers, hA.le⟩, fun s _ => hA.reps s, fun j o ho hj => (by rw [hasBit_zero] at hj; cases hj)⟩
      obtain ⟨env2, S2, Sact2, pos2, fuel2, hS2, hc2⟩ := hpre.enter hR hbl h
      refine any_sound hC hR hbl ops.size _ (List.range ops.size) 0 env2 σ S2 Sact2 pos2 m K a _ fuel2 hS2 hc2 List.nodup_range (fun i => ?_) (by simp)
      rw [List.mem_range]
      constructor
      · intro hi; exact ⟨by simpa using hi, hnl i hi⟩
      · intro hi; simpa using hi.1
    · exact h.elim
  · exact h.elim

end Go.Sv
