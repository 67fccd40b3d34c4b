/- From a call over stores to a law's row, at this seat. -/
import Derived.Test.YtgdnoobpnhmpjaaGreatDoorSvW
import Derived.Test.YtgdnoobpnhmpjaaGreatDoorSvY
import Derived.WalkKit
import Derived.ProofKit
import Derived.OpenShut
import Derived.LaidLaws
import Derived.LaidHandle
set_option linter.unusedVariables false
set_option linter.unusedSimpArgs false
set_option maxRecDepth 100000
namespace Go.Sv
attribute [local semireducible] SCalls
open Go Go.RowKit Go.Shelf Go.Proofs Go.WideShapes Go.ChangeShapes
section
variable {tab : TypeId → Option TI} {g : Nat} {t : TypeId} {p : PV} {ti : TI}
theorem hasT_struct {fs : List (Nat × TypeId)} (ht : tab t = some ti) (hd : ti.td = .struct fs) (h : hasT tab (g + 1) t p) : ∃ qs : List PV, p = .agg (flat qs) ∧ fieldsT (hasT tab g) fs qs := by
  unfold hasT at h; rw [ht] at h; simp only [hd] at h; exact h
theorem hasT_int {k : IntKind} (ht : tab t = some ti) (hd : ti.td = .int k) (h : hasT tab (g + 1) t p) : ∃ n, p = .int k n ∧ (Lit.int k n).wf = true := by
  unfold hasT at h; rw [ht] at h; simp only [hd] at h; exact h
theorem hasT_str (ht : tab t = some ti) (hd : ti.td = .str) (h : hasT tab (g + 1) t p) : ∃ s : List UInt8, p = .str s ∧ s.length ≤ maxLen := by
  unfold hasT at h; rw [ht] at h; simp only [hd] at h; exact h
theorem hasT_slice {e : TypeId} (ht : tab t = some ti) (hd : ti.td = .slice e) (h : hasT tab (g + 1) t p) : ∃ xs, p = .sl xs ∧ ∀ x ∈ xs, hasT tab g e x := by
  unfold hasT at h; rw [ht] at h; simp only [hd] at h; exact h
theorem fields_nil {P : TypeId → PV → Prop} {qs : List PV} (h : fieldsT P [] qs) : qs = [] := by cases qs with | nil => rfl | cons => exact h.elim
theorem fields_cons {P : TypeId → PV → Prop} {o : Nat} {t : TypeId} {r : List (Nat × TypeId)} {qs : List PV} (h : fieldsT P ((o, t) :: r) qs) : ∃ q qs', qs = q :: qs' ∧ P t q ∧ fieldsT P r qs' := by
  cases qs with
  | nil => exact h.elim
  | cons q qs' => exact ⟨q, qs', rfl, h.1, h.2⟩
end
theorem laidVars_mem {P : Program} {w : World} : ∀ {laid : List (String × DataW Unit)} {ps : List MemPlace}, DataW.LaidVars P w laid ps → ∀ x ∈ laid, ∃ g t cs fuel p, P.globalNamed x.1 = some g ∧ (P.globals[g]?).map (·.type) = some t ∧ w.var? P x.1 = some cs ∧ DataW.trod (fun _ => ()) P w 0 (fun _ => true) false fuel t cs.toList = some (x.2, p)
  | [], _, _, x, hx => by simp at hx
  | (n, d) :: r, ps, ⟨g, t, cs, fuel, p, q, h1, h2, h3, h4, h5, _⟩, x, hx => by
    rcases List.mem_cons.1 hx with rfl | hx
    · exact ⟨g, t, cs, fuel, p, h1, h2, h3, h4⟩
    · exact laidVars_mem h5 x hx
theorem tab_of {P : Program} {W : World} {name : String} {k : IntKind} {zs : List Int} {g : Nat} {t e : TypeId} {n : Nat}
    (hg : P.globalNamed name = some g) (hty : (P.globals[g]?).map (·.type) = some t) (ht : P.underlying t = some (.array n e)) (he : P.underlying e = some (.int k)) (hce : P.cellsOf e = 1) (hct : P.cellsOf t = n)
    {laid : List (String × DataW Unit)} (h : laidMet P laid W) (hx : (name, Lib.tabData k zs) ∈ laid) : Lib.TabIs P W name k zs := by
  obtain ⟨ps, hl, _⟩ := h
  obtain ⟨g', t', cs, fuel, p, hg', ht', hvar, hd⟩ := laidVars_mem hl _ hx
  obtain rfl := Option.some.inj (hg.symm.trans hg')
  obtain rfl := Option.some.inj (hty.symm.trans ht')
  unfold Lib.TabIs
  rw [hvar, ← Lib.cells_of_tab ht he hce hct hd]
theorem laid_of {W : World} {data : List (String × DataW Unit)} {d : DataW Unit} (h : laidMet Tryz.prog data W ∧ handlesMet Tryz.prog [("errors.errorType", d)] W) (hd : d = .iface "internal/reflectlite.rtype" (.agg [.ptr (.lit (.string [101, 114, 114, 111, 114]))]))
    (hx : ("internal/strconv.uint64pow10", Lib.tabData .u64 Lib.pow10Tab) ∈ data) : Laid W := by
  subst hd
  refine ⟨tab_of (g := 6) (t := 262) (e := 245) (n := 20) (by kernel_rfl) (by kernel_rfl) (by kernel_rfl) (by kernel_rfl) (by kernel_rfl) (by kernel_rfl) h.1 hx, ?_⟩
  obtain ⟨name, u, ty, e1, e2, e3, e4, e5⟩ := h.2 _ (List.mem_singleton.2 rfl)
  have en : name = [101, 114, 114, 111, 114] := (Option.some.inj e1).symm
  subst en
  have rt : (Tryz.prog.cutTypes.find? (·.1 == "internal/reflectlite.rtype")).map (·.2) = some 184 := by kernel_rfl
  obtain rfl := Option.some.inj (rt.symm.trans e2)
  have size : Tryz.prog.types.size = 302 := by kernel_rfl
  have oneRow : ((List.range 302).filter fun t => Tryz.prog.rowNamed t [101, 114, 114, 111, 114]) = [24] := by kernel_rfl
  have hm : ty ∈ (List.range 302).filter fun t => Tryz.prog.rowNamed t [101, 114, 114, 111, 114] := List.mem_filter.2 ⟨List.mem_range.2 (by rw [← size]; exact e3), e4⟩
  rw [oneRow] at hm
  obtain rfl := List.mem_singleton.1 hm
  have hh : typeHandle Tryz.prog 24 = .pointer (some ⟨9, 24, none⟩) := by kernel_rfl
  rw [hh] at e5
  have et : Tryz.prog.globalNamed "errors.errorType" = some 0 := by kernel_rfl
  simpa using World.var?_cell et e5 0
theorem laidOut : laidOutB Tryz.prog = true := by kernel_rfl
theorem law_contract {f : FuncId} {fn : Func} (hf : Tryz.prog.funcs[f]? = some fn) (hn : (fn.name == "runtime.NumGoroutine") = false) (hb : fn.body = some (bodyOf fn)) {s : ChangeSpec} (hs : s.vars = []) (hrt : fn.resultTypes = #[4])
    (hg : fn.params.toList.all (goodT tabS 12) = true) (hr : ∀ t ∈ fn.params.toList, Tryz.prog.readableRec t = true ∧ t < Tryz.prog.types.size) {H : Type} {enc : TypeId × Value → H} {W : World} {base : Nat} {args : Array Value} {ds gs : List (DataW H)} {before : List MemPlace} {apart fresh handsOn again : Bool}
    (hval : ∀ (j : Nat) t v, fn.params[j]? = some t → args[j]? = some v → Value.okWide Tryz.prog W .any base t v) (hW : DataW.Whole enc Tryz.prog fn.params.toList s.vars apart W args.toList ds gs before)
    (hfn : s.fn H (ds ++ gs) = { results := [.lit (.bool true)], args := ds })
    (hlaw : (∀ (j : Nat) (t : TypeId) (d : DataW H), fn.params.toList[j]? = some t → ds[j]? = some d → hasT tabS 12 t (toPV d)) → SCalls (cx ⟨W, KW W⟩) f (ds.map fun d => .pv (toPV d)) [] fun r _ => r = .pv (.bool true)) :
    Calls Tryz.prog f args W fun e W' => ∃ v, e = .returned v ∧ s.post enc Tryz.prog fn apart fresh handsOn again W args v W' := by
  have hW' := hW
  obtain ⟨p, q, hA, hV, rfl, hfz, hnd⟩ := hW
  have hpq : ∀ x ∈ p ++ q, x.block < W.heap.size := fun x hx => hW'.lt x hx
  rw [hs] at hV
  obtain ⟨rfl, rfl⟩ := trodVars_none hV
  have hgood : ∀ t ∈ fn.params.toList, goodT (cx ⟨W, KW W⟩).tab 12 t = true := fun t ht => List.all_eq_true.1 hg t ht
  obtain ⟨l1, l2⟩ := args_rep (C := cx ⟨W, KW W⟩) (cxOK ⟨W, KW W⟩).tab fn.params.toList args.toList ds p hgood (fun j t v ht hv => hval j t v (by simpa using ht) (by simpa using hv)) hA
  have htyped : ∀ (j : Nat) (t : TypeId) (d : DataW H), fn.params.toList[j]? = some t → ds[j]? = some d → hasT tabS 12 t (toPV d) := by
    have key : ∀ (ts : List TypeId) (vs : List Value) (ds : List (DataW H)) (ps : List MemPlace), (∀ t ∈ ts, goodT tabS 12 t = true) → DataW.TrodAll enc Tryz.prog W 0 (fun _ => true) true ts vs ds ps → ∀ (j : Nat) (t : TypeId) (d : DataW H), ts[j]? = some t → ds[j]? = some d → hasT tabS 12 t (toPV d) := by
      intro ts
      induction ts with
      | nil => intro vs ds ps _ _ j t d ht; simp at ht
      | cons t ts ih =>
        intro vs ds ps hg h j t' d ht hd
        obtain ⟨v, vs', d', ds', p, q, rfl, rfl, rfl, h1, h2⟩ := trodAll_cons h
        cases j with
        | zero =>
          simp at ht hd; subst ht; subst hd
          obtain ⟨fuel, hf⟩ := h1
          exact trod_typed (C := cx ⟨W, KW W⟩) (cxOK ⟨W, KW W⟩).tab fuel 12 _ _ _ _ (hg _ (by simp)) hf
        | succ j => exact ih vs' ds' q (fun t ht => hg t (List.mem_cons_of_mem _ ht)) h2 j t' d (by simpa using ht) (by simpa using hd)
    exact key _ _ _ _ hgood hA
  have hB : Bears (cx ⟨W, KW W⟩) (fun _ _ => none) (KW W) [] W := ⟨Below.refl _ _, fun b o v h => h, (fun _ _ _ h => nomatch h), (fun id x h => nomatch (show (none : Option SObj) = some x from h)), (fun id x b h => nomatch (show (none : Option SObj) = some x from h)), (fun id x id' x' b h => nomatch (show (none : Option SObj) = some x from h)), (fun g a h => nomatch (show (none : Option AV) = some a from h)), fun b o v h => .inl h⟩
  have hc := hlaw htyped _ (KW W) W args hB ⟨by simpa using l1, fun j a v ha hv => l2 j a v ha (by simpa using hv)⟩
  refine Calls.mono (CallNext.calls (P := Tryz.prog) (enters hf hn hb args W) hc) fun e W' ⟨v, he, r, m', K', σ', hB', _, _, hrep, hrv⟩ => ?_
  subst hrv
  obtain rfl := hrep.bool_inv
  refine ⟨_, he, ?_⟩
  have hbel : Below W.heap.size W W' := hB'.below
  refine post_below (pa := p) (pv := []) hW' ?_ (fun sp hsp => ?_) (fun sp hsp => ?_) (by simp) hbel (ok_one hrt rfl (okWide_bool_mk Tryz.underlying4 true))
  · intro b sp hd
    rw [hfn, hrt]
    exact trodAll_mk1 (shut_bool Tryz.underlying4 true)
  · rw [hfn]
    exact trodAll_stays laidOut hbel _ _ _ _ hr hA (fun x hx => hpq x (List.mem_append_left _ hx)) (fun x hx => hsp x (List.mem_append_left _ hx))
  · rw [hfn, hs]
    rfl
end Go.Sv
