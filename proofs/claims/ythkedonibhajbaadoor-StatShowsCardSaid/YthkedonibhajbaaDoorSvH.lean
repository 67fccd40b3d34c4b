/- What the executor says of a plain operation is true of the model. No program stands in this text. -/
import Derived.Test.YthkedonibhajbaaDoorSvG
import Derived.LaidEqlPtr
set_option linter.unusedVariables false
set_option linter.unusedSimpArgs false
namespace Go.Sv
open Go Go.RowKit

/-- A table that is true of the program, and what else an executor leans on. -/
structure CtxOK (C : Ctx) : Prop where
  tab : TabOK C
  mixed : C.P.follows .mixedOrders = true
  bld : ∀ t ti, C.isB t = true → C.tab t = some ti → ti.zero = .agg #[.pointer none, .slice none 0 0]

/-- A new builder. -/
theorem Bears.alloc_bld {C : Ctx} {m : Mp} {K : KS} {σ : Store} {w : World} (hB : Bears C m K σ w) (t el : TypeId) :
    ∃ m', Bears C m' K (σ ++ [.bld t el []]) (w.alloc (.cells #[.pointer none, .slice none 0 0] t)) ∧ Ext m K m' K ∧ ARep m' K (.ptr σ.length 0) (.pointer (some ⟨w.heap.size, 0, none⟩)) := by
  have hnone : ∀ v, m σ.length v = none := by
    intro v
    cases h : m σ.length v with
    | none => rfl
    | some x => exact absurd (hB.dom _ _ _ h) (Nat.lt_irrefl _)
  have hsz : C.w0.heap.size ≤ w.heap.size := hB.below.size
  have hm : ∀ i v x, m i v = some x → setMp (setMp m σ.length 0 (.at w.heap.size 0 0)) σ.length 1 .nil i v = some x := by
    intro i v x h
    exact setMp_new (by simp [setMp, hnone]) _ _ _ (setMp_new (hnone 0) _ _ _ h)
  have h0 : setMp (setMp m σ.length 0 (.at w.heap.size 0 0)) σ.length 1 .nil σ.length 0 = some (.at w.heap.size 0 0) := by simp [setMp]
  have h1 : setMp (setMp m σ.length 0 (.at w.heap.size 0 0)) σ.length 1 .nil σ.length 1 = some .nil := by simp [setMp]
  have hblk : ∀ b, b ∈ blk (setMp (setMp m σ.length 0 (.at w.heap.size 0 0)) σ.length 1 .nil) σ.length (.bld t el []) → b = w.heap.size := by
    intro b hb
    simpa [blk, Loc.blk, h0, h1] using hb
  refine ⟨_, hB.step σ.length (.bld t el []) (fun id x h => get_append_new h) (by simp) (by simp) hm (fun i h => by rw [setMp_other _ _ _ _ _ h, setMp_other _ _ _ _ _ h]) (hB.below.alloc hsz _)
    (fun b i v h => alloc_cell_old _ _ _ _ (hB.keep_lt h)) (fun id x b hne hs hb => alloc_heap_old _ _ _ (hB.lt hs hb)) ?_ ?_ ?_, ⟨hm, fun _ _ _ h => h⟩, .ptr _ _ _ _ _ h0⟩
  · refine ⟨w.heap.size, 0, 0, .pointer none, .slice none 0 0, h0, alloc_heap_new _ _, .inl rfl, fun o v h => absurd (hB.keep_lt h) (Nat.lt_irrefl _), fun ver l h => ?_, .inl ⟨rfl, h1, rfl⟩⟩
    simp only [setMp] at h
    split at h
    · rename_i e; simp [e.2]
    · split at h
      · rename_i e; simp [e.2]
      · rw [hnone] at h; cases h
  · intro b hb
    have := hblk b hb; subst this
    exact hsz
  · intro b hb id x hne hs hx
    have := hblk b hb; subst this
    exact absurd (hB.lt hs hx) (Nat.lt_irrefl _)

/-- How an operation ends. -/
def Ends (C : Ctx) (m : Mp) (K : KS) (w : World) (s : Sem Next) (v : AV) (σ' : Store) : Prop :=
  ∃ x w' m' K', (s.run C.P w = .ok (.value x) w' ∨ (s.run C.P w = .ok .skip w' ∧ x = undef)) ∧ Bears C m' K' σ' w' ∧ Ext m K m' K' ∧ ARep m' K' v x
theorem Ends.value {C : Ctx} {m : Mp} {K : KS} {w : World} {s : Sem Value} {v : AV} {σ' : Store} (h : ∃ x w' m' K', s.run C.P w = .ok x w' ∧ Bears C m' K' σ' w' ∧ Ext m K m' K' ∧ ARep m' K' v x) :
    Ends C m K w (do pure (.value (← s))) v σ' := by
  obtain ⟨x, w', m', K', hr, h1, h2, h3⟩ := h
  exact ⟨x, w', m', K', .inl (by simp [hr]), h1, h2, h3⟩
theorem Ends.quiet {C : Ctx} {m : Mp} {K : KS} {σ : Store} {w : World} (hB : Bears C m K σ w) {s : Sem Value} {v : AV} (h : ∃ x, s.run C.P w = .ok x w ∧ ARep m K v x) : Ends C m K w (do pure (.value (← s))) v σ := by
  obtain ⟨x, hr, h3⟩ := h
  exact .value ⟨x, w, m, K, hr, hB, Ext.refl _ _, h3⟩

/-! ### Loads and stores -/
theorem load_sound {C : Ctx} {m : Mp} {K : KS} {σ : Store} {w : World} (hB : Bears C m K σ w) {t : TypeId} {ti : TI} (hT : TIok C.P t ti) {a : AV} {x : Value} (hx : ARep m K a x) {r : AV} (h : aLoad σ ti a = some r) :
    ∃ v, (Instr.loadAt t x).run C.P w = .ok v w ∧ ARep m K r v := by
  unfold aLoad at h
  split at h
  · rename_i id off
    split at h
    · rename_i ty cs ho
      cases hx with
      | ptr _ _ b cap es hm =>
        obtain ⟨b', cap', es', arr, hm', hh, hl, hr, _⟩ := hB.obj id _ ho
        rw [hm] at hm'; cases hm'
        have hat : CellsAt m K w b 0 cs := by
          intro j a ha
          have hlt : j < arr.size := by rw [← hl]; exact (List.getElem?_eq_some_iff.1 ha).1
          have hv : arr[j]? = some arr[j] := Array.getElem?_eq_getElem hlt
          have := hr j a _ ha hv
          exact ⟨_, by rw [Nat.zero_add, cell_heap w b _ hh]; exact hv, this.1, this.2⟩
        obtain ⟨v, hv, hrep⟩ := run_loadVar_at hT hat h
        rw [Nat.zero_add] at hv
        exact ⟨v, by simp [Instr.loadAt, Instr.sureAddr, hv], hrep⟩
    · cases h
  · rename_i id ver i off
    split at h
    · rename_i es xs fz ho
      split at h
      · rename_i hver
        subst hver
        split at h
        · rename_i p hp
          cases hq : partP ti.td.isAgg ti.size off p with
          | none => rw [hq] at h; simp at h
          | some q =>
            rw [hq] at h
            simp only [Option.map_some, Option.some.injEq] at h
            subst h
            cases hx with
            | eptr _ _ _ _ b cap es' hm hi =>
              obtain ⟨rfl, arr, ty, fr, hh, hcap, hmax, hasz, hes, hcr, _, _⟩ := hB.arr_open ho hm
              have hat : CellsAt m K w b (i * es') (p.cells.map .pv) := by
                intro j a ha
                simp only [List.getElem?_map, Option.map_eq_some_iff] at ha
                obtain ⟨c, hc, rfl⟩ := ha
                have hlt : j < es' := by rw [← hes p (List.mem_of_getElem? hp)]; exact (List.getElem?_eq_some_iff.1 hc).1
                have hf := flat_get hes hp j hlt
                rw [hc] at hf
                have hlt2 : i * es' + j < arr.size := by
                  have h1 := (List.getElem?_eq_some_iff.1 hf).1
                  rw [flat_length hes] at h1
                  have h2 : xs.length * es' ≤ cap * es' := Nat.mul_le_mul_right _ hcap
                  omega
                have hv : arr[i * es' + j]? = some arr[i * es' + j] := Array.getElem?_eq_getElem hlt2
                have := hcr _ _ _ hf hv
                exact ⟨_, by rw [cell_heap w b _ hh]; exact hv, .pv _ _ this.1, this.2⟩
              obtain ⟨v, hv, hrep⟩ := run_loadVar_at hT hat (partP_partA hq)
              exact ⟨v, by simp [Instr.loadAt, Instr.sureAddr, hv], hrep⟩
        · cases h
      · cases h
    · cases h
  · rename_i p off
    cases hq : partP ti.td.isAgg ti.size off p with
    | none => rw [hq] at h; simp at h
    | some q =>
      rw [hq] at h
      simp only [Option.map_some, Option.some.injEq] at h
      subst h
      cases hx with
      | ro _ _ b o vs hl hr hk =>
        have hat : CellsAt m K w b o (p.cells.map .pv) := by
          intro j a ha
          simp only [List.getElem?_map, Option.map_eq_some_iff] at ha
          obtain ⟨c, hc, rfl⟩ := ha
          have hlt : j < vs.length := by rw [← hl]; exact (List.getElem?_eq_some_iff.1 hc).1
          have hv : vs[j]? = some vs[j] := List.getElem?_eq_getElem hlt
          have h2 := hB.keep _ _ _ (hk j _ hv)
          exact ⟨_, h2.1, .pv _ _ (hr j c _ hc hv), h2.2⟩
        obtain ⟨v, hv, hrep⟩ := run_loadVar_at hT hat (partP_partA hq)
        exact ⟨v, by simp [Instr.loadAt, Instr.sureAddr, hv], hrep⟩
  · cases h

theorem flat_part {xs : List PV} {es i off : Nat} {p p' : PV} {ps : List PV} (hes : ∀ x ∈ xs, x.cells.length = es) (hi : xs[i]? = some p) (hle : off + ps.length ≤ p.cells.length) (hp' : p'.cells = splice p.cells off ps) :
    flat (xs.set i p') = splice (flat xs) (i * es + off) ps ∧ (∀ x ∈ xs.set i p', x.cells.length = es) ∧ i * es + off + ps.length ≤ (flat xs).length := by
  have hlt : i < xs.length := (List.getElem?_eq_some_iff.1 hi).1
  have hpl : p.cells.length = es := hes p (List.mem_of_getElem? hi)
  have hpl' : p'.cells.length = es := by rw [hp', splice_length _ _ _ hle, hpl]
  have hes' : ∀ x ∈ xs.set i p', x.cells.length = es := by
    intro x hx
    rcases List.mem_or_eq_of_mem_set hx with h | h
    · exact hes x h
    · rw [h]; exact hpl'
  have hfl := flat_length hes
  have hle2 : i * es + es ≤ xs.length * es := by
    have : (i + 1) * es ≤ xs.length * es := Nat.mul_le_mul_right _ hlt
    rw [Nat.add_mul] at this; omega
  refine ⟨?_, hes', by omega⟩
  apply List.ext_getElem?
  intro k
  rw [splice_get _ _ _ (by omega)]
  by_cases hk : k < xs.length * es
  · by_cases h0 : es = 0
    · subst h0; omega
    · have hpos : 0 < es := Nat.pos_of_ne_zero h0
      have hd : k / es < xs.length := (Nat.div_lt_iff_lt_mul hpos).2 hk
      have hm : k % es < es := Nat.mod_lt _ hpos
      have hkk : k / es * es + k % es = k := by rw [Nat.mul_comm]; exact Nat.div_add_mod _ _
      by_cases hik : k / es = i
      · have hg : (xs.set i p')[k / es]? = some p' := by rw [hik]; simp [hlt]
        have h1 := flat_get hes' hg (k % es) hm
        rw [hkk] at h1
        rw [h1, hp', splice_get _ _ _ hle]
        have h2 := flat_get hes (i := k / es) (x := p) (by rw [hik]; exact hi) (k % es) hm
        rw [hkk] at h2
        rw [← h2]
        rw [hik] at hkk
        by_cases hin : off ≤ k % es ∧ k % es < off + ps.length
        · rw [if_pos hin, if_pos (by omega)]
          congr 1; omega
        · rw [if_neg hin, if_neg (by omega)]
      · have hx : xs[k / es]? = some xs[k / es] := List.getElem?_eq_getElem hd
        have hg : (xs.set i p')[k / es]? = some xs[k / es] := by rw [List.getElem?_set_ne (Ne.symm hik)]; exact hx
        have h1 := flat_get hes' hg (k % es) hm
        have h2 := flat_get hes hx (k % es) hm
        rw [hkk] at h1 h2
        rw [h1, h2, if_neg]
        intro hc
        rcases Nat.lt_or_ge (k / es) i with h | h
        · have : (k / es + 1) * es ≤ i * es := Nat.mul_le_mul_right _ h
          rw [Nat.add_mul] at this
          omega
        · have h3 : i + 1 ≤ k / es := by omega
          have : (i + 1) * es ≤ k / es * es := Nat.mul_le_mul_right _ h3
          rw [Nat.add_mul] at this
          omega
  · rw [List.getElem?_eq_none (by rw [flat_length hes', List.length_set]; omega), if_neg (by omega), List.getElem?_eq_none (by omega)]
theorem store_sound {C : Ctx} {m : Mp} {K : KS} {σ : Store} {w : World} (hB : Bears C m K σ w) {t : TypeId} {ti : TI} (hT : TIok C.P t ti) {a v : AV} {x y : Value} (hx : ARep m K a x) (hy : ARep m K v y) {σ' : Store} (h : aStore σ ti a v = some σ') :
    ∃ w' m' K', (Instr.storeAt t x y).run C.P w = .ok () w' ∧ Bears C m' K' σ' w' ∧ Ext m K m' K' := by
  unfold aStore at h
  simp only at h
  split at h
  · rename_i hc
    obtain ⟨hsz, h1⟩ := hc
    have hcr := cells_rep hy h1
    have hrun : ∀ (ad : Addr) w', (storeCells ad y.cells.toList).run C.P w = .ok () w' → (Instr.storeAt t (.pointer (some ad)) y).run C.P w = .ok () w' := by
      intro ad w' hst
      have : y.cells.size = ti.size := by rw [← hcr.1]; exact hsz
      simp [Instr.storeAt, Instr.sureAddr, storeVar, run_sizeOf' hT, this, hst]
    have h1v : ∀ u ∈ y.cells.toList, u.oneCell' = true := by
      intro u hu
      obtain ⟨j, hj⟩ := List.getElem?_of_mem hu
      have hj' : y.cells[j]? = some u := by simpa using hj
      have hlt : j < v.cells.length := by rw [hcr.1]; exact (Array.getElem?_eq_some_iff.1 hj').1
      exact (hcr.2 j _ u (List.getElem?_eq_getElem hlt) hj').2
    split at h
    · rename_i id off
      split at h
      · rename_i ty cs ho
        split at h
        · rename_i hle
          cases h
          cases hx with
          | ptr _ _ b cap es hm =>
            obtain ⟨w', hst, hB'⟩ := hB.store_cells ho hm off v.cells y.cells.toList hle (by simpa using hcr.1) (fun j a u ha hu => hcr.2 j a u ha (by simpa using hu))
            exact ⟨w', m, K, hrun _ _ hst, hB', Ext.refl _ _⟩
        · cases h
      · cases h
    · rename_i id ver i off
      split at h
      · rename_i es xs ps ho hps
        split at h
        · rename_i hver
          subst hver
          have hvs := allPv_map hps
          have hpl : ps.length = v.cells.length := by rw [hvs]; simp
          cases hx with
          | eptr _ _ _ _ b cap es' hm hi =>
            obtain ⟨rfl, arr, ty, fr, hh, hcap, hmax, hasz, hes, hcr2, hfr, hkk⟩ := hB.arr_open ho hm
            have core : ∀ p p' : PV, xs[i]? = some p → off + ps.length ≤ p.cells.length → p'.cells = splice p.cells off ps →
                ∃ w' m' K', (Instr.storeAt t (.pointer (some ⟨b, i * es' + off, none⟩)) y).run C.P w = .ok () w' ∧ Bears C m' K' (σ.set id (.arr es' (xs.set i p') false)) w' ∧ Ext m K m' K' := by
              intro p p' hp hle hp'
              obtain ⟨hf, hes2, hle2⟩ := flat_part hes hp hle hp'
              have hfl := flat_length hes
              have hmul : xs.length * es' ≤ cap * es' := Nat.mul_le_mul_right _ hcap
              have hyl : y.cells.toList.length = ps.length := by rw [hpl, hcr.1]; simp
              obtain ⟨w', cur', hst, hsb, hb', hsz', hk⟩ := run_storeCells C.P b (i * es' + off) ty fr y.cells.toList 0 arr w hh (by omega) (fun j a b => hfr j (by simp) (by omega)) h1v
              obtain ⟨m', q1, q2, q3⟩ := hB.arr_change ho hm hh hsb hb' hsz' (xs.set i p') (by simp) (by simpa using hcap) hes2 (fun j q u hq hu => by
                rw [hf, splice_get _ _ _ hle2] at hq
                rw [hk j, hyl] at hu
                simp only [Nat.add_zero] at hu
                by_cases hj : i * es' + off ≤ j ∧ j < i * es' + off + ps.length
                · rw [if_pos hj] at hq hu
                  have := hcr.2 (j - (i * es' + off)) (.pv q) u (by rw [hvs]; simp [hq]) (by simpa using hu)
                  exact ⟨this.1.pv_inv, this.2⟩
                · rw [if_neg hj] at hq hu
                  exact hcr2 j q u hq hu) (fun j u hK => by have := (hkk j u hK).1; cases this)
              exact ⟨w', m', K, hrun _ _ hst, q1, q2⟩
            split at h
            · rename_i cs hcs
              split at h
              · rename_i hle
                cases h
                exact core _ _ hcs hle rfl
              · cases h
            · rename_i p hnot hp
              split at h
              · rename_i q
                split at h
                · rename_i h0
                  cases h
                  subst h0
                  have hq1 : PV.one q = true := by
                    have := h1
                    rw [hvs] at this
                    simp only [List.map_cons, List.map_nil, List.all_cons, List.all_nil, Bool.and_true] at this
                    cases q <;> first | rfl | simp [AV.one] at this
                  have hqc : q.cells = [q] := by cases q <;> first | rfl | simp [PV.one] at hq1
                  have hpc : p.cells = [p] := by
                    cases p <;> first | rfl | exact absurd rfl (hnot _)
                  exact core p q hp (by rw [hpc]; simp) (by rw [hqc, hpc]; rfl)
                · cases h
              · cases h
            · cases h
        · cases h
      · cases h
    · cases h
  · cases h

end Go.Sv
