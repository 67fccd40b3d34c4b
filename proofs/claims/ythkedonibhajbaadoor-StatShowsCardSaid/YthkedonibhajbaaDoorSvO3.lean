/- Variables laid at a place that was kept free; what stands in a round of a region that draws. No program stands in this text. -/
import Derived.Test.YthkedonibhajbaaDoorSvO2
set_option linter.unusedVariables false
set_option linter.unusedSimpArgs false
namespace Go.Sv
open Go Go.RowKit

theorem Bears.more {C : Ctx} {m : Mp} {K : KS} {σ : Store} {w : World} (hB : Bears C m K σ w) (k : Nat) : Bears C m K (σ ++ List.replicate k .gone) w := by
  have hget : ∀ (id : Nat) x, (σ ++ List.replicate k SObj.gone)[id]? = some x → (σ[id]? = some x) ∨ x = .gone := by
    intro id x h
    by_cases hl : id < σ.length
    · rw [List.getElem?_append_left hl] at h; exact .inl h
    · rw [List.getElem?_append_right (by omega)] at h
      have := (List.mem_replicate.1 (List.mem_of_getElem? h)).2
      exact .inr this
  refine ⟨hB.below, hB.keep, fun id ver l h => ?_, fun id x h => ?_, fun id x b h hb => ?_, fun id x id' x' b h h' hb hb' => ?_, hB.glob, hB.old⟩
  · have := hB.dom id ver l h
    rw [List.length_append]; omega
  · rcases hget id x h with h | rfl
    · exact hB.obj id x h
    · trivial
  · rcases hget id x h with h | rfl
    · exact hB.base id x b h hb
    · simp [blk] at hb
  · rcases hget id x h with h | rfl
    · rcases hget id' x' h' with h' | rfl
      · exact hB.apart id x id' x' b h h' hb hb'
      · simp [blk] at hb'
    · simp [blk] at hb
/-- A new variable, at a place kept free. -/
theorem Bears.lay_cells {C : Ctx} {m : Mp} {K : KS} {σ : Store} {w : World} (hB : Bears C m K σ w) {p : Nat} (hp : p < σ.length) (hg : σ[p]? = some .gone) (hm : ∀ ver, m p ver = none) (t : TypeId) (cs : List AV) (vs : Array Value) (hl : cs.length = vs.size)
    (hr : ∀ (j : Nat) a v, cs[j]? = some a → vs[j]? = some v → ARep m K a v ∧ v.oneCell' = true) :
    ∃ m', Bears C m' K (σ.set p (.cells t cs)) (w.alloc (.cells vs t)) ∧ Ext m K m' K ∧ ARep m' K (.ptr p 0) (.pointer (some ⟨w.heap.size, 0, none⟩)) ∧ ∀ id, id ≠ p → m' id = m id := by
  have hx : Ext m K (setMp m p 0 (.at w.heap.size 0 0)) K := ⟨setMp_new (hm 0), fun _ _ _ h => h⟩
  have hsz : C.w0.heap.size ≤ w.heap.size := hB.below.size
  have hblk : ∀ b, b ∈ blk (setMp m p 0 (.at w.heap.size 0 0)) p (.cells t cs) → b = w.heap.size := fun b hb => by simpa [blk, Loc.blk, setMp_same] using hb
  refine ⟨setMp m p 0 (.at w.heap.size 0 0), hB.step p (.cells t cs) (fun id x h => get_set hp h) (by simp) (by simpa using hp) hx.1 (fun id h => setMp_other _ _ _ _ _ h) (hB.below.alloc hsz _)
    (fun b i v h => alloc_cell_old _ _ _ _ (hB.keep_lt h)) (fun id x b hne hs hb => alloc_heap_old _ _ _ (hB.lt hs hb)) ?_ ?_ ?_, hx, .ptr _ _ _ _ _ (setMp_same _ _ _ _), fun id h => setMp_other _ _ _ _ _ h⟩
  · exact ⟨w.heap.size, 0, 0, vs, setMp_same _ _ _ _, alloc_heap_new _ _, hl, fun j a v x y => ⟨(hr j a v x y).1.mono hx, (hr j a v x y).2⟩, fun o v h => absurd (hB.keep_lt h) (Nat.lt_irrefl _)⟩
  · intro b hb
    have := hblk b hb; subst this
    exact hsz
  · intro b hb id x hne hs hx
    have := hblk b hb; subst this
    exact absurd (hB.lt hs hx) (Nat.lt_irrefl _)
theorem Bears.lay_bld {C : Ctx} {m : Mp} {K : KS} {σ : Store} {w : World} (hB : Bears C m K σ w) {p : Nat} (hp : p < σ.length) (hg : σ[p]? = some .gone) (hnone : ∀ ver, m p ver = none) (t el : TypeId) :
    ∃ m', Bears C m' K (σ.set p (.bld t el [])) (w.alloc (.cells #[.pointer none, .slice none 0 0] t)) ∧ Ext m K m' K ∧ ARep m' K (.ptr p 0) (.pointer (some ⟨w.heap.size, 0, none⟩)) ∧ ∀ id, id ≠ p → m' id = m id := by
  have hsz : C.w0.heap.size ≤ w.heap.size := hB.below.size
  have hm : ∀ i v x, m i v = some x → setMp (setMp m p 0 (.at w.heap.size 0 0)) p 1 .nil i v = some x := by
    intro i v x h
    exact setMp_new (by simp [setMp, hnone]) _ _ _ (setMp_new (hnone 0) _ _ _ h)
  have h0 : setMp (setMp m p 0 (.at w.heap.size 0 0)) p 1 .nil p 0 = some (.at w.heap.size 0 0) := by simp [setMp]
  have h1 : setMp (setMp m p 0 (.at w.heap.size 0 0)) p 1 .nil p 1 = some .nil := by simp [setMp]
  have hblk : ∀ b, b ∈ blk (setMp (setMp m p 0 (.at w.heap.size 0 0)) p 1 .nil) p (.bld t el []) → b = w.heap.size := by
    intro b hb
    simpa [blk, Loc.blk, h0, h1] using hb
  have hother : ∀ i, i ≠ p → setMp (setMp m p 0 (.at w.heap.size 0 0)) p 1 .nil i = m i := fun i h => by rw [setMp_other _ _ _ _ _ h, setMp_other _ _ _ _ _ h]
  refine ⟨_, hB.step p (.bld t el []) (fun id x h => get_set hp h) (by simp) (by simpa using hp) hm hother (hB.below.alloc hsz _)
    (fun b i v h => alloc_cell_old _ _ _ _ (hB.keep_lt h)) (fun id x b hne hs hb => alloc_heap_old _ _ _ (hB.lt hs hb)) ?_ ?_ ?_, ⟨hm, fun _ _ _ h => h⟩, .ptr _ _ _ _ _ h0, hother⟩
  · refine ⟨w.heap.size, 0, 0, .pointer none, .slice none 0 0, h0, alloc_heap_new _ _, .inl rfl, fun o v h => absurd (hB.keep_lt h) (Nat.lt_irrefl _), fun ver l h => ?_, .inl ⟨rfl, h1, rfl⟩⟩
    simp only [setMp] at h
    split at h
    · rename_i e; simp [e.2]
    · split at h
      · rename_i e; simp [e.2]
      · rw [hnone] at h; cases h
  · intro b hb
    have := hblk b hb; subst this
    exact hsz
  · intro b hb id x hne hs hx
    have := hblk b hb; subst this
    exact absurd (hB.lt hs hx) (Nat.lt_irrefl _)
/-- An operation that lays a variable, at a place kept free. -/
theorem alloc_sound {C : Ctx} (hC : CtxOK C) {m : Mp} {K : KS} {σ : Store} {w : World} (hB : Bears C m K σ w) {e : Operand → AV} {ρ : Operand → Value} (he : ∀ x, ARep m K (e x) (ρ x)) {o : Oper} (hk : opKind C o = 2) {ob : SObj} (h : allocObj C o e = some ob)
    {p : Nat} (hp : p < σ.length) (hg : σ[p]? = some .gone) (hm : ∀ ver, m p ver = none) :
    ∃ x w' m', (execOp ρ o).run C.P w = .ok (.value x) w' ∧ Bears C m' K (σ.set p ob) w' ∧ Ext m K m' K ∧ ARep m' K (.ptr p 0) x ∧ ∀ id, id ≠ p → m' id = m id := by
  unfold allocObj at h
  split at h
  · rename_i t ho
    split at h
    · rename_i ti hti
      cases h
      have hTI := hC.tab _ _ hti
      have hrun : (execOp ρ o).run C.P w = .ok (.value (.pointer (some ⟨w.heap.size, 0, none⟩))) (w.alloc (.cells ti.zero.cells t)) := by
        simp [execOp, ho, Instr.alloc, run_zeroValue' hTI, newVar, newRow]
      unfold newObj
      cases hb : C.isB t with
      | true =>
        have hz := hC.bld t ti hb hti
        rw [hz] at hrun
        obtain ⟨m', h1, h2, h3, h4⟩ := hB.lay_bld hp hg hm t C.u8
        exact ⟨_, _, m', hrun, h1, h2, h3, h4⟩
      | false =>
        have hz := zero_reps (m := m) (K := K) hTI
        obtain ⟨m', h1, h2, h3, h4⟩ := hB.lay_cells hp hg hm t _ _ hz.1 hz.2
        exact ⟨_, _, m', hrun, h1, h2, h3, h4⟩
    · cases h
  · rename_i t x ho
    split at h
    · rename_i h1
      cases h
      have hcr := cells_rep (he x) h1
      obtain ⟨m', h1, h2, h3, h4⟩ := hB.lay_cells hp hg hm t _ _ hcr.1 hcr.2
      exact ⟨_, _, m', by simp [execOp, ho, Instr.box, newVar, newRow], h1, h2, h3, h4⟩
    · cases h
  · cases h

/-! ### Rounds -/
theorem memN_iff {t : Nat} {l : List Nat} : memN t l = true ↔ t ∈ l := by
  induction l with
  | nil => simp [memN]
  | cons u r ih =>
    simp only [memN, List.mem_cons]
    rcases beq_cases t u with ⟨h, hb⟩ | ⟨h, hb⟩
    · simp [h, hb]
    · simp [h, hb, ih]
theorem memN_false {t : Nat} {l : List Nat} : memN t l = false ↔ t ∉ l := by
  rw [← memN_iff]; simp
/-- A region whose operations' bonds are as reckoned. -/
structure Rg (C : Ctx) (ops : List Oper) (bs : List Nat) : Prop where
  edges : ∀ (i : Nat) o, ops[i]? = some o → ∀ e ∈ o.after.toList, bindsAny e = true → e.on < i
  bef : ∀ (i : Nat) o, ops[i]? = some o → ∀ j, hasBit (nthN bs i) j = true → ∃ e ∈ o.after.toList, bindsAny e = true ∧ (j = e.on ∨ hasBit (nthN bs e.on) j = true)
  bef2 : ∀ (i : Nat) o, ops[i]? = some o → ∀ e ∈ o.after.toList, bindsAny e = true → hasBit (nthN bs i) e.on = true ∧ ∀ j, hasBit (nthN bs e.on) j = true → hasBit (nthN bs i) j = true
  self : ∀ (i : Nat) o d, ops[i]? = some o → o.dst = some d → d ∉ looks ops o
  reads : ∀ (i : Nat) o (j : Nat) p d, ops[i]? = some o → ops[j]? = some p → i ≠ j → p.dst = some d → d ∈ looks ops o → hasBit (nthN bs i) j = true ∨ (hasBit (nthN bs j) i = true ∧ opKind C p = 3)
  once : ∀ (i : Nat) o (j : Nat) p d, ops[i]? = some o → ops[j]? = some p → o.dst = some d → p.dst = some d → i = j
  loud : ∀ (i : Nat) o (j : Nat) p, ops[i]? = some o → ops[j]? = some p → i ≠ j → opKind C o = 3 → ¬ (opKind C p = 0 ∨ opKind C p = 1) → hasBit (nthN bs i) j = true ∨ hasBit (nthN bs j) i = true
theorem rowOK_spec {C : Ctx} {ops : List Oper} {i : Nat} {o : Oper} {bi : Nat} : ∀ {j : Nat} {r : List Oper} {br : List Nat}, r.length = br.length → rowOK C ops i o bi j r br = true → ∀ (k : Nat) p, r[k]? = some p → pairOK C ops i o bi (j + k) p (nthN br k) = true
  | j, [], [], _, _, k, p, hp => by simp at hp
  | j, q :: r, b :: br, hl, h, k, p, hp => by
    simp only [rowOK, Bool.and_eq_true] at h
    cases k with
    | zero => simp at hp; subst hp; exact h.1
    | succ k =>
      have := rowOK_spec (j := j + 1) (by simpa using hl) h.2 k p (by simpa using hp)
      rw [show j + (k + 1) = j + 1 + k by omega]
      exact this
theorem rowsOK_spec {C : Ctx} {ops : List Oper} {bs : List Nat} : ∀ {i : Nat} {r : List Oper} {br : List Nat}, r.length = br.length → rowsOK C ops bs i r br = true → ∀ (k : Nat) o, r[k]? = some o → rowOK C ops (i + k) o (nthN br k) 0 ops bs = true
  | i, [], [], _, _, k, p, hp => by simp at hp
  | i, q :: r, b :: br, hl, h, k, p, hp => by
    simp only [rowsOK, Bool.and_eq_true] at h
    cases k with
    | zero => simp at hp; subst hp; exact h.1
    | succ k =>
      have := rowsOK_spec (i := i + 1) (by simpa using hl) h.2 k p (by simpa using hp)
      rw [show i + (k + 1) = i + 1 + k by omega]
      exact this
theorem Rg.of {C : Ctx} {ops : List Oper} {bs : List Nat} (hb : befs 0 ops [] = some bs) (hr : rowsOK C ops bs 0 ops bs = true) : Rg C ops bs ∧ bs.length = ops.length := by
  obtain ⟨h1, h2, h3⟩ := befs_spec (by rfl) hb
  have hl : ops.length = bs.length := by rw [h1]; omega
  have hpair : ∀ (i : Nat) o (j : Nat) p, ops[i]? = some o → ops[j]? = some p → pairOK C ops i o (nthN bs i) j p (nthN bs j) = true := by
    intro i o j p ho hp
    have := rowOK_spec hl (rowsOK_spec hl hr i o ho) j p hp
    simpa using this
  have hed : ∀ (i : Nat) o, ops[i]? = some o → ∀ e ∈ o.after.toList, bindsAny e = true → e.on < i := by
    intro i o ho e he hbe
    obtain ⟨acc', h4, h5⟩ := h3 i o ho
    have := ((befOf_spec h5).1 e he hbe).1
    omega
  refine ⟨⟨hed, fun i o ho j hj => ?_, fun i o ho e he hbe => ?_, fun i o d ho hd => ?_, fun i o j p d ho hp hne hd hdl => ?_, fun i o j p d ho hp hd hd' => ?_, fun i o j p ho hp hne hk hk' => ?_⟩, hl.symm⟩
  · obtain ⟨acc', h4, h5⟩ := h3 i o ho
    rw [Nat.zero_add] at h5
    obtain ⟨e, he, hbe, hje⟩ := (befOf_spec h5).2 j hj
    refine ⟨e, he, hbe, ?_⟩
    rcases hje with h | h
    · exact .inl h
    · have := hed i o ho e he hbe
      rw [h4 e.on (by omega)] at h
      exact .inr h
  · obtain ⟨acc', h4, h5⟩ := h3 i o ho
    rw [Nat.zero_add] at h5
    obtain ⟨g1, g2, g3⟩ := (befOf_spec h5).1 e he hbe
    exact ⟨g2, fun j hj => g3 j (by rw [h4 e.on (by omega)]; exact hj)⟩
  · have := hpair i o i o ho ho
    unfold pairOK at this
    rw [show Nat.beq i i = true by simp] at this
    simp only [hd] at this
    exact memN_false.1 (by simpa using this)
  · have := hpair i o j p ho hp
    unfold pairOK at this
    rcases beq_cases i j with ⟨e, _⟩ | ⟨_, hbq⟩
    · exact absurd e hne
    · rw [hbq] at this
      simp only [hd, Bool.and_eq_true, Bool.or_eq_true] at this
      rcases this.1.1 with (h | h) | h
      · exact .inl h
      · exact absurd hdl (memN_false.1 (by simpa using h))
      · exact .inr ⟨h.1, Nat.eq_of_beq_eq_true h.2⟩
  · rcases Nat.decEq i j with hne | e
    · have := hpair i o j p ho hp
      unfold pairOK at this
      rcases beq_cases i j with ⟨e, _⟩ | ⟨_, hbq⟩
      · exact e
      · rw [hbq] at this
        simp only [hd, hd', Bool.and_eq_true] at this
        have h := this.1.2
        simp at h
    · exact e
  · have := hpair i o j p ho hp
    unfold pairOK at this
    rcases beq_cases i j with ⟨e, _⟩ | ⟨_, hbq⟩
    · exact absurd e hne
    · rw [hbq] at this
      simp only [Bool.and_eq_true] at this
      have h := this.2
      have e0 : Nat.beq (opKind C p) 0 = false := by
        rcases beq_cases (opKind C p) 0 with ⟨h, _⟩ | ⟨_, h⟩
        · exact absurd (.inl h) hk'
        · exact h
      have e1 : Nat.beq (opKind C p) 1 = false := by
        rcases beq_cases (opKind C p) 1 with ⟨h, _⟩ | ⟨_, h⟩
        · exact absurd (.inr h) hk'
        · exact h
      rw [hk, e0, e1] at h
      simpa using h

theorem Rg.trans {C : Ctx} {ops : List Oper} {bs : List Nat} (hR : Rg C ops bs) {i : Nat} {o : Oper} (ho : ops[i]? = some o) {j k : Nat} (hj : hasBit (nthN bs i) j = true) (hk : hasBit (nthN bs j) k = true) : hasBit (nthN bs i) k = true := by
  induction i using Nat.strongRecOn generalizing o with
  | _ i ih =>
    obtain ⟨e, he, hb, h⟩ := hR.bef i o ho j hj
    obtain ⟨h1, h2⟩ := hR.bef2 i o ho e he hb
    rcases h with rfl | h
    · exact h2 k hk
    · have hlt := hR.edges i o ho e he hb
      have hlen : i < ops.length := (List.getElem?_eq_some_iff.1 ho).1
      exact h2 k (ih e.on hlt (List.getElem?_eq_getElem (by omega)) h)

end Go.Sv
