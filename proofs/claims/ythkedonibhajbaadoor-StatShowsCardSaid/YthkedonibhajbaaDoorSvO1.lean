/- What an operation looks at; quiet operations over a store that has grown. No program stands in this text. -/
import Derived.Test.YthkedonibhajbaaDoorSvN
set_option linter.unusedVariables false
set_option linter.unusedSimpArgs false
namespace Go.Sv
open Go Go.RowKit

/-! ### What an operation looks at -/
structure Same (ts : List Nat) (e e' : Operand → AV) : Prop where
  tmp : ∀ t, t ∈ ts → e (.tmp t) = e' (.tmp t)
  other : ∀ x, tmpOf x = [] → e x = e' x
theorem Same.op {ts : List Nat} {e e' : Operand → AV} (h : Same ts e e') {x : Operand} (hx : ∀ t, t ∈ tmpOf x → t ∈ ts) : e x = e' x := by
  cases x with
  | tmp t => exact h.tmp t (hx t (by simp [tmpOf]))
  | _ => exact h.other _ rfl
theorem Same.list {ts : List Nat} {e e' : Operand → AV} (h : Same ts e e') {l : List Operand} (hx : ∀ t, t ∈ tmpsOf l → t ∈ ts) : l.map e = l.map e' := by
  induction l with
  | nil => rfl
  | cons x r ih =>
    simp only [tmpsOf, List.mem_append] at hx
    rw [List.map_cons, List.map_cons, h.op (fun t ht => hx t (.inl ht)), ih (fun t ht => hx t (.inr ht))]
theorem Same.pairs {ts : List Nat} {e e' : Operand → AV} (h : Same ts e e') {l : List (Nat × Operand)} (hx : ∀ t, t ∈ tmpsOf (l.map (·.2)) → t ∈ ts) : (l.map fun p => (p.1, e p.2)) = l.map fun p => (p.1, e' p.2) := by
  induction l with
  | nil => rfl
  | cons x r ih =>
    simp only [List.map_cons, tmpsOf, List.mem_append] at hx
    rw [List.map_cons, List.map_cons, h.op (fun t ht => hx t (.inl ht)), ih (fun t ht => hx t (.inr ht))]
theorem Same.opt {ts : List Nat} {e e' : Operand → AV} (h : Same ts e e') {x : Option Operand} (hx : ∀ t, t ∈ optTmps x → t ∈ ts) : x.map e = x.map e' := by
  cases x with
  | none => rfl
  | some x => simp only [Option.map_some, h.op hx]
theorem aopK_congr {C : Ctx} {o : Oper} {e e' : Operand → AV} {σ : Store} {k : AV → Store → Prop} (h : Same (opTmps o.op) e e') (ha : aopK C o e σ k) : aopK C o e' σ k := by
  obtain ⟨dst, op, type, pos, after, guard⟩ := o
  have one : ∀ x, (∀ t, t ∈ tmpOf x → t ∈ opTmps op) → e x = e' x := fun x hx => h.op hx
  have lst : ∀ l, (∀ t, t ∈ tmpsOf l → t ∈ opTmps op) → l.map e = l.map e' := fun x hx => h.list hx
  have prs : ∀ l : List (Nat × Operand), (∀ t, t ∈ tmpsOf (l.map (·.2)) → t ∈ opTmps op) → (l.map fun p => (p.1, e p.2)) = l.map fun p => (p.1, e' p.2) := fun x hx => h.pairs hx
  have opn : ∀ l, (∀ t, t ∈ optTmps l → t ∈ opTmps op) → l.map e = l.map e' := fun x hx => h.opt hx
  cases op
  case call c =>
    obtain ⟨callee, args, ts⟩ := c
    cases callee with
    | value f => exact ha
    | invoke r n => exact ha
    | builtin b =>
      have hl : args.toList.map e = args.toList.map e' := lst _ (fun t ht => by simpa [opTmps] using ht)
      have ha0 : ∀ x, args[0]? = some x → e x = e' x := by
        intro x hx
        have h1 : (args.toList.map e)[0]? = (args.toList.map e')[0]? := by rw [hl]
        simpa [hx] using h1
      cases b
      case len =>
        simp only [aopK] at ha ⊢
        refine opt_mono ha fun t _ h => opt_mono h fun x hx h => ?_
        rw [← ha0 x hx]
        exact h
      case append =>
        simp only [aopK] at ha ⊢
        split at ha
        · rename_i t t2 s x hts hargs
          rw [hargs] at hl
          simp only [List.map_cons, List.map_nil, List.cons.injEq, and_true] at hl
          rw [hl.1, hl.2] at ha
          exact ha
        · exact ha.elim
      case copy =>
        simp only [aopK] at ha ⊢
        split at ha
        · rename_i t t2 s x hts hargs
          rw [hargs] at hl
          simp only [List.map_cons, List.map_nil, List.cons.injEq, and_true] at hl
          rw [hl.1, hl.2] at ha
          exact ha
        · exact ha.elim
      case min =>
        simp only [aopK] at ha ⊢
        split at ha
        · rename_i x r hargs
          rw [hargs] at hl
          simp only [List.map_cons, List.cons.injEq] at hl
          rw [hl.1, hl.2] at ha
          exact ha
        · exact ha.elim
      case max =>
        simp only [aopK] at ha ⊢
        split at ha
        · rename_i x r hargs
          rw [hargs] at hl
          simp only [List.map_cons, List.cons.injEq] at hl
          rw [hl.1, hl.2] at ha
          exact ha
        · exact ha.elim
      all_goals exact ha
  case move x =>
    simp only [aopK] at ha ⊢
    rw [one x (fun t ht => by simp [opTmps, ht])] at ha
    exact ha
  case assign x =>
    simp only [aopK] at ha ⊢
    rw [one x (fun t ht => by simp [opTmps, ht])] at ha
    exact ha
  case nilCheck x =>
    simp only [aopK] at ha ⊢
    rw [one x (fun t ht => by simp [opTmps, ht])] at ha
    exact ha
  case pick c a b =>
    simp only [aopK] at ha ⊢
    rw [one c (fun t ht => by simp [opTmps, ht])] at ha
    rw [one a (fun t ht => by simp [opTmps, ht])] at ha
    rw [one b (fun t ht => by simp [opTmps, ht])] at ha
    exact ha
  case box t x =>
    simp only [aopK] at ha ⊢
    rw [one x (fun t ht => by simp [opTmps, ht])] at ha
    exact ha
  case build t ps =>
    simp only [aopK] at ha ⊢
    rw [prs ps.toList (fun t ht => by simp [opTmps, ht])] at ha
    exact ha
  case buildSlice t n ps =>
    simp only [aopK] at ha ⊢
    rw [prs ps.toList (fun t ht => by simp [opTmps, ht])] at ha
    exact ha
  case load t a =>
    simp only [aopK] at ha ⊢
    rw [one a (fun t ht => by simp [opTmps, ht])] at ha
    exact ha
  case store t a x =>
    simp only [aopK] at ha ⊢
    rw [one a (fun t ht => by simp [opTmps, ht])] at ha
    rw [one x (fun t ht => by simp [opTmps, ht])] at ha
    exact ha
  case binOp bo t x y yt =>
    simp only [aopK] at ha ⊢
    rw [one x (fun t ht => by simp [opTmps, ht])] at ha
    rw [one y (fun t ht => by simp [opTmps, ht])] at ha
    exact ha
  case unOp uo t x =>
    simp only [aopK] at ha ⊢
    rw [one x (fun t ht => by simp [opTmps, ht])] at ha
    exact ha
  case convert s d x =>
    simp only [aopK] at ha ⊢
    rw [one x (fun t ht => by simp [opTmps, ht])] at ha
    exact ha
  case makeInterface t x =>
    simp only [aopK] at ha ⊢
    rw [one x (fun t ht => by simp [opTmps, ht])] at ha
    exact ha
  case makeFunc fn xs ys =>
    simp only [aopK] at ha ⊢
    rw [lst xs.toList (fun t ht => by simp [opTmps, ht])] at ha
    rw [lst ys.toList (fun t ht => by simp [opTmps, ht])] at ha
    exact ha
  case makeSlice t l c =>
    simp only [aopK] at ha ⊢
    rw [one l (fun t ht => by simp [opTmps, ht])] at ha
    rw [one c (fun t ht => by simp [opTmps, ht])] at ha
    exact ha
  case fieldAddr t x f =>
    simp only [aopK] at ha ⊢
    rw [one x (fun t ht => by simp [opTmps, ht])] at ha
    exact ha
  case field t x f =>
    simp only [aopK] at ha ⊢
    rw [one x (fun t ht => by simp [opTmps, ht])] at ha
    exact ha
  case indexAddr t x i =>
    simp only [aopK] at ha ⊢
    rw [one x (fun t ht => by simp [opTmps, ht])] at ha
    rw [one i (fun t ht => by simp [opTmps, ht])] at ha
    exact ha
  case index t x i =>
    simp only [aopK] at ha ⊢
    rw [one x (fun t ht => by simp [opTmps, ht])] at ha
    rw [one i (fun t ht => by simp [opTmps, ht])] at ha
    exact ha
  case typeAssert x s t ok =>
    simp only [aopK] at ha ⊢
    rw [one x (fun t ht => by simp [opTmps, ht])] at ha
    exact ha
  case extract x i =>
    simp only [aopK] at ha ⊢
    rw [one x (fun t ht => by simp [opTmps, ht])] at ha
    exact ha
  case slice t x lo hi mx =>
    cases mx with
    | some m => exact ha
    | none =>
      simp only [aopK] at ha ⊢
      rw [one x (fun t ht => by simp [opTmps, ht]), opn lo (fun t ht => by simp [opTmps, ht]), opn hi (fun t ht => by simp [opTmps, ht])] at ha
      exact ha
  all_goals exact ha

/-! ### Quiet operations -/
def Grown (σ σ' : Store) : Prop := ∀ (id : Nat) x, σ[id]? = some x → σ'[id]? = some x
theorem aLoad_grown {σ σ' : Store} (h : Grown σ σ') {ti : TI} {a r : AV} (hl : aLoad σ ti a = some r) : aLoad σ' ti a = some r := by
  unfold aLoad at *
  split at hl
  · split at hl
    · rename_i ho
      rw [h _ _ ho]
      exact hl
    · cases hl
  · split at hl
    · rename_i ho
      rw [h _ _ ho]
      exact hl
    · cases hl
  · exact hl
  · cases hl
theorem elems_grown {σ σ' : Store} (h : Grown σ σ') {a : AV} {xs : List PV} (hl : elems σ a = some xs) : elems σ' a = some xs := by
  unfold elems at *
  split at hl
  · exact hl
  · exact hl
  · split at hl
    · rename_i ho
      rw [h _ _ ho]
      exact hl
    · cases hl
  · exact hl
  · cases hl
theorem aSlice_grown {σ σ' : Store} (h : Grown σ σ') {tab : TypeId → Option TI} {td : TD} {x : AV} {lo hi : Option AV} {r : AV} (hl : aSlice σ tab td x lo hi = some r) : aSlice σ' tab td x lo hi = some r := by
  unfold aSlice at *
  split at hl
  · cases hl
  · split at hl
    · split at hl
      · rename_i hc
        rw [if_pos hc]
        split at hl
        · exact hl
        · exact hl
        · exact hl
        · split at hl
          · rename_i ei es xs fz htab ho
            simp only [htab, h _ _ ho]
            exact hl
          · cases hl
        · cases hl
      · cases hl
    · cases hl
theorem aIndexAddr_grown {σ σ' : Store} (h : Grown σ σ') {tab : TypeId → Option TI} {td : TD} {x : AV} {i : Int} {r : AV} (hl : aIndexAddr σ tab td x i = some r) : aIndexAddr σ' tab td x i = some r := by
  unfold aIndexAddr at *
  split at hl
  · split at hl
    · cases hl
    · split at hl
      · exact hl
      · split at hl
        · rename_i ho
          simp only [h _ _ ho]
          exact hl
        · cases hl
      · cases hl
  · exact hl
  · cases hl
theorem aopK_quiet {C : Ctx} {o : Oper} {e : Operand → AV} {σ σ' : Store} {P : AV → Prop} (hk : opKind C o = 0 ∨ opKind C o = 1) (hg : opKind C o = 0 ∨ Grown σ σ') (h : aopK C o e σ fun v _ => P v) : aopK C o e σ' fun v s => P v ∧ s = σ' := by
  obtain ⟨dst, op, type, pos, after, guard⟩ := o
  have grown : opKind C ⟨dst, op, type, pos, after, guard⟩ ≠ 0 → Grown σ σ' := fun hn => hg.resolve_left hn
  cases op
  case move x => exact ⟨h, rfl⟩
  case pick c a b => exact isB_mono h fun t h => by cases t <;> exact ⟨h, rfl⟩
  case build t ps => exact opt_mono h fun _ _ h => opt_mono h fun _ _ h => ⟨h, rfl⟩
  case nilCheck x => exact opt_mono h fun _ _ h => ⟨h, rfl⟩
  case binOp bo t x y yt =>
    simp only [aopK] at h ⊢
    exact aBinK_mono h fun v h => ⟨h, trivial⟩
  case unOp uo t x => exact opt_mono h fun _ _ h => ⟨h, rfl⟩
  case makeInterface t x =>
    refine opt_mono h fun ti _ h => ?_
    split at h
    · exact h.elim
    · exact opt_mono h fun _ _ h => ⟨h, rfl⟩
  case makeFunc fn xs ys => exact ⟨h, rfl⟩
  case fieldAddr t x f => exact opt_mono h fun _ _ h => opt_mono h fun _ _ h => ⟨h, rfl⟩
  case field t x f => exact opt_mono h fun _ _ h => opt_mono h fun _ _ h => ⟨h, rfl⟩
  case index t x i =>
    refine opt_mono h fun ti _ h => ?_
    split at h
    · exact opt_mono h fun _ _ h => ⟨h, rfl⟩
    · exact h.elim
  case typeAssert x s t ok => exact opt_mono h fun _ _ h => ⟨h, rfl⟩
  case extract x i => exact isTup_mono h fun _ h => opt_mono h fun _ _ h => ⟨h, rfl⟩
  case load t a =>
    have hgr := grown (by simp [opKind])
    obtain ⟨ti, hti, h⟩ := opt_some h
    obtain ⟨v, hv, h⟩ := opt_some h
    simp only [aopK, hti, opt, aLoad_grown hgr hv]
    exact ⟨h, trivial⟩
  case slice t x lo hi mx =>
    cases mx with
    | some _ => exact h.elim
    | none =>
      have hgr := grown (by simp [opKind])
      obtain ⟨ti, hti, h⟩ := opt_some h
      obtain ⟨v, hv, h⟩ := opt_some h
      simp only [aopK, hti, opt, aSlice_grown hgr hv]
      exact ⟨h, trivial⟩
  case indexAddr t x i =>
    have hgr := grown (by simp [opKind])
    obtain ⟨ti, hti, h⟩ := opt_some h
    simp only [aopK, hti, opt]
    split at h
    · obtain ⟨v, hv, h⟩ := opt_some h
      rw [aIndexAddr_grown hgr hv]
      exact ⟨h, trivial⟩
    · exact h.elim
  case convert s d x =>
    obtain ⟨si, hsi, h⟩ := opt_some h
    obtain ⟨di, hdi, h⟩ := opt_some h
    obtain ⟨v, σ2, hv, h⟩ := opt2_some h
    simp only [aopK, hsi, hdi, opt]
    have hk' : convKind di.td = 0 ∨ convKind di.td = 1 := by simpa [opKind, hdi] using hk
    have key : aConvert σ' C.tab si.td di.td (e x) = some (v, σ') := by
      unfold aConvert at *
      split at hv
      · cases hv; rfl
      · cases hv; rfl
      · rename_i hd _; rw [hd] at hk'; simp [convKind] at hk'
      · rename_i hd hns
        have hgr := grown (by simp [opKind, hdi, hd, convKind])
        split at hv
        · split at hv
          · obtain ⟨s, hs, e1⟩ := Option.map_eq_some_iff.1 hv
            cases e1
            simp [hs]
          · cases hv; rfl
          · split at hv
            · rename_i hx
              obtain ⟨s, hs, e1⟩ := Option.map_eq_some_iff.1 hv
              cases e1
              simp [elems_grown hgr hx, hs]
            · cases hv
          · cases hv
        · cases hv
      · cases hv
    simp only [key, opt2]
    exact ⟨h, trivial⟩
  case call c =>
    obtain ⟨callee, args, ts⟩ := c
    cases callee with
    | value f => simp [opKind] at hk
    | invoke r n => simp [opKind] at hk
    | builtin b =>
      cases b
      case len => exact opt_mono h fun _ _ h => opt_mono h fun _ _ h => opt_mono h fun _ _ h => opt_mono h fun _ _ h => ⟨h, rfl⟩
      case min =>
        simp only [aopK] at h ⊢
        split at h
        · exact opt_mono h fun _ _ h => ⟨h, trivial⟩
        · exact h.elim
      case max =>
        simp only [aopK] at h ⊢
        split at h
        · exact opt_mono h fun _ _ h => ⟨h, trivial⟩
        · exact h.elim
      all_goals simp [opKind] at hk
  all_goals simp [opKind] at hk

end Go.Sv
