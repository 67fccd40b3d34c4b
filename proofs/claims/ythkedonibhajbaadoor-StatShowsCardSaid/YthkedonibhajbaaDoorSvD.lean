/- How the store's objects change, and the worlds with them. No program stands in this text. -/
import Derived.Test.YthkedonibhajbaaDoorSvC
set_option linter.unusedVariables false
set_option linter.unusedSimpArgs false
namespace Go.Sv
open Go Go.RowKit

/-- Two worlds that part in one block at most. -/
structure SameBut (g : Nat) (w w' : World) : Prop where
  os : w'.os = w.os
  tape : w'.tape = w.tape
  output : w'.output = w.output
  size : w'.heap.size = w.heap.size
  block : ∀ k, k ≠ g → w'.heap[k]? = w.heap[k]?
theorem SameBut.refl (g : Nat) (w : World) : SameBut g w w := ⟨rfl, rfl, rfl, rfl, fun _ _ => rfl⟩
theorem SameBut.trans {g a b c} (h : SameBut g a b) (k : SameBut g b c) : SameBut g a c :=
  ⟨k.os.trans h.os, k.tape.trans h.tape, k.output.trans h.output, k.size.trans h.size, fun i hi => (k.block i hi).trans (h.block i hi)⟩
theorem SameBut.below {g B w0 w w'} (h : SameBut g w w') (hb : Below B w0 w) (hg : B ≤ g) : Below B w0 w' :=
  hb.trans ⟨h.os, h.tape, h.output, by rw [h.size]; exact Nat.le_refl _, fun k hk => h.block k (by omega)⟩
theorem SameBut.setCell (w : World) (a : Addr) (v : Value) : SameBut a.block w (w.setCell a v) :=
  ⟨rfl, rfl, rfl, by simp, fun k hk => Below.heap_setCell _ _ _ _ hk⟩
theorem cell_heap (w : World) (b o : Nat) {cs : Array Value} {t : TypeId} {fr : Nat × Nat} (h : w.heap[b]? = some (.cells cs t fr)) : w.cell? ⟨b, o, none⟩ = cs[o]? := by
  simp [World.cell?, h]
theorem frozen_heap (w : World) (b o : Nat) {cs : Array Value} {t : TypeId} {fr : Nat × Nat} (h : w.heap[b]? = some (.cells cs t fr)) : w.frozen? ⟨b, o, none⟩ = (decide (fr.1 ≤ o) && decide (o < fr.2)) := by
  obtain ⟨lo, hi⟩ := fr
  simp [World.frozen?, h]
theorem heap_of_cell {w : World} {b o : Nat} {v : Value} (h : w.cell? ⟨b, o, none⟩ = some v) : ∃ cs t fr, w.heap[b]? = some (.cells cs t fr) ∧ cs[o]? = some v := by
  unfold World.cell? at h
  split at h
  · rename_i c t fr hb
    exact ⟨c, t, fr, hb, by simpa using h⟩
  · cases h
theorem heap_setCell (w : World) (b o : Nat) (v : Value) {cs : Array Value} {t : TypeId} {fr : Nat × Nat} (h : w.heap[b]? = some (.cells cs t fr)) :
    (w.setCell ⟨b, o, none⟩ v).heap[b]? = some (.cells (cs.setIfInBounds o v) t fr) := by
  simp [World.setCell, Array.getElem?_modify, h]
/-- Cells stored one behind the other, where none is frozen. -/
theorem run_storeCells (P : Program) (b o : Nat) (t : TypeId) (fr : Nat × Nat) : ∀ (vs : List Value) (i : Nat) (cur : Array Value) (w : World),
    w.heap[b]? = some (.cells cur t fr) → o + i + vs.length ≤ cur.size → (∀ j, o + i ≤ j → j < o + i + vs.length → ¬ (fr.1 ≤ j ∧ j < fr.2)) → (∀ v ∈ vs, v.oneCell' = true) →
    ∃ w' cur', (storeCells ⟨b, o, none⟩ vs i).run P w = .ok () w' ∧ SameBut b w w' ∧ w'.heap[b]? = some (.cells cur' t fr) ∧ cur'.size = cur.size ∧
      ∀ k, cur'[k]? = if o + i ≤ k ∧ k < o + i + vs.length then vs[k - (o + i)]? else cur[k]?
  | [], i, cur, w, hb, hle, hfr, h1 => ⟨w, cur, rfl, SameBut.refl _ _, hb, rfl, fun k => by
      have : ¬ (o + i ≤ k ∧ k < o + i + ([] : List Value).length) := by simp
      rw [if_neg this]⟩
  | v :: vs, i, cur, w, hb, hle, hfr, h1 => by
    simp only [List.length_cons] at hle hfr
    have hc : w.cell? ⟨b, o + i, none⟩ = some (cur[o + i]'(by omega)) := by rw [cell_heap w b _ hb]; exact Array.getElem?_eq_getElem (by omega)
    have hf : w.frozen? ⟨b, o + i, none⟩ = false := by
      rw [frozen_heap w b _ hb]
      have := hfr (o + i) (by omega) (by omega)
      simp only [Bool.and_eq_false_iff, decide_eq_false_iff_not]
      omega
    have hb' := heap_setCell w b (o + i) v hb
    obtain ⟨w', cur', hr, hs, hb2, hsz, hk⟩ := run_storeCells P b o t fr vs (i + 1) _ _ hb' (by simp; omega) (fun j h h' => hfr j (by omega) (by omega)) (fun u hu => h1 u (List.mem_cons_of_mem _ hu))
    refine ⟨w', cur', ?_, (SameBut.setCell w ⟨b, o + i, none⟩ v).trans hs, hb2, by simpa using hsz, fun k => ?_⟩
    · simp only [storeCells, Sem.run_bind, addr_add, run_store P w _ v _ (h1 v (by simp)), hc, hf, Bool.false_eq_true, if_false, Result.andThen_ok]
      exact hr
    · rw [hk k]
      simp only [List.length_cons]
      by_cases h : k = o + i
      · subst h
        rw [if_neg (by omega), if_pos (by omega)]
        simp [Array.getElem?_setIfInBounds, show o + i < cur.size by omega]
      · by_cases h2 : o + (i + 1) ≤ k ∧ k < o + (i + 1) + vs.length
        · rw [if_pos h2, if_pos (by omega)]
          rw [show k - (o + i) = (k - (o + (i + 1))) + 1 by omega]
          simp
        · rw [if_neg h2, if_neg (by omega)]
          simp [Array.getElem?_setIfInBounds, Ne.symm h]

/-! ### One object turns, or a new one comes -/
theorem OInv.blk_some {m : Mp} {K : KS} {w : World} {id : Nat} {x : SObj} (h : OInv m K w id x) {m' : Mp} (hm : ∀ ver l, m id ver = some l → m' id ver = some l) : blk m' id x = blk m id x := by
  cases x with
  | cells ty cs =>
    obtain ⟨b, cap, es, arr, hb, _⟩ := h
    simp [blk, Loc.blk, hb, hm _ _ hb]
  | arr es xs fz =>
    rcases h.2 with ⟨rfl, hb⟩ | ⟨b, cap, arr, ty, fr, hb, _⟩
    · simp [blk, Loc.blk, hb, hm _ _ hb]
    · simp [blk, Loc.blk, hb, hm _ _ hb]
  | bld ty el s =>
    obtain ⟨b, cap, es, p, v, hb, _, _, _, _, h⟩ := h
    rcases h with ⟨rfl, hb2, _⟩ | ⟨b2, cap2, arr, fr, hb2, _⟩
    · simp only [List.length_nil] at *
      simp [blk, Loc.blk, hb, hm _ _ hb, hb2, hm _ _ hb2]
    · simp [blk, Loc.blk, hb, hm _ _ hb, hb2, hm _ _ hb2]
  | gone => rfl
theorem OInv.frame {m m' : Mp} {K : KS} {w w' : World} {id : Nat} {x : SObj} (h : OInv m K w id x) (he : Ext m K m' K) (hv : m' id = m id)
    (hb : ∀ b, b ∈ blk m id x → w'.heap[b]? = w.heap[b]?) : OInv m' K w' id x := by
  cases x with
  | cells ty cs =>
    obtain ⟨b, cap, es, arr, hm, hh, hl, hr, hk⟩ := h
    refine ⟨b, cap, es, arr, he.1 _ _ _ hm, ?_, hl, fun j a v x y => ⟨(hr j a v x y).1.mono he, (hr j a v x y).2⟩, hk⟩
    rw [hb b (by simp [blk, Loc.blk, hm])]; exact hh
  | arr es xs fz =>
    obtain ⟨hver, h⟩ := h
    refine ⟨fun ver l hl => hver ver l (by rw [← hv]; exact hl), ?_⟩
    rcases h with ⟨rfl, hm⟩ | ⟨b, cap, arr, ty, fr, hm, hh, rest⟩
    · exact .inl ⟨rfl, he.1 _ _ _ hm⟩
    · refine .inr ⟨b, cap, arr, ty, fr, he.1 _ _ _ hm, ?_, rest⟩
      rw [hb b (by simp [blk, Loc.blk, hm])]; exact hh
  | bld ty el s =>
    obtain ⟨b, cap, es, p, v, hm, hh, hp, hk, hver, h⟩ := h
    refine ⟨b, cap, es, p, v, he.1 _ _ _ hm, ?_, hp, hk, fun ver l hl => hver ver l (by rw [← hv]; exact hl), ?_⟩
    · rw [hb b (by simp [blk, Loc.blk, hm])]; exact hh
    · rcases h with ⟨h0, hm2, hv2⟩ | ⟨b2, cap2, arr, fr, hm2, hne, hv2, hh2, rest⟩
      · exact .inl ⟨h0, he.1 _ _ _ hm2, hv2⟩
      · refine .inr ⟨b2, cap2, arr, fr, he.1 _ _ _ hm2, hne, hv2, ?_, rest⟩
        rw [hb b2 (by simp [blk, Loc.blk, hm2])]; exact hh2
  | gone => trivial
theorem Bears.lt {C : Ctx} {m K σ w} (hB : Bears C m K σ w) {id x b} (h : σ[id]? = some x) (hb : b ∈ blk m id x) : b < w.heap.size := by
  have hi := hB.obj id x h
  have : ∃ o, w.heap[b]? = some o := by
    cases x with
    | cells ty cs =>
      obtain ⟨b', cap, es, arr, hm, hh, _⟩ := hi
      simp [blk, Loc.blk, hm] at hb; subst hb; exact ⟨_, hh⟩
    | arr es xs fz =>
      rcases hi.2 with ⟨rfl, hm⟩ | ⟨b', cap, arr, ty, fr, hm, hh, _⟩
      · simp [blk, Loc.blk, hm] at hb
      · simp [blk, Loc.blk, hm] at hb; subst hb; exact ⟨_, hh⟩
    | bld ty el s =>
      obtain ⟨b', cap, es, p, v, hm, hh, hp, hk, hver, h⟩ := hi
      rcases h with ⟨rfl, hm2, hv2⟩ | ⟨b2, cap2, arr, fr, hm2, hne, hv2, hh2, rest⟩
      · simp only [List.length_nil] at *
        simp [blk, Loc.blk, hm, hm2] at hb; subst hb; exact ⟨_, hh⟩
      · simp [blk, Loc.blk, hm, hm2] at hb
        rcases hb with hb | hb
        · subst hb; exact ⟨_, hh⟩
        · subst hb; exact ⟨_, hh2⟩
    | gone => simp [blk] at hb
  obtain ⟨o, ho⟩ := this
  exact (Array.getElem?_eq_some_iff.1 ho).1
theorem Bears.keep_lt {C : Ctx} {m K σ w} (hB : Bears C m K σ w) {b o v} (h : K b o v) : b < w.heap.size := by
  obtain ⟨cs, t, fr, hb, _⟩ := heap_of_cell (hB.keep b o v h).1
  exact (Array.getElem?_eq_some_iff.1 hb).1
theorem Bears.step {C : Ctx} {m m' : Mp} {K : KS} {σ σ' : Store} {w w' : World} (hB : Bears C m K σ w) (id0 : Nat) (x0 : SObj)
    (hσ : ∀ (id : Nat) x, σ'[id]? = some x → (id = id0 ∧ x = x0) ∨ (id ≠ id0 ∧ σ[id]? = some x)) (hlen : σ.length ≤ σ'.length) (hid : id0 < σ'.length)
    (hm : ∀ id ver l, m id ver = some l → m' id ver = some l) (hm' : ∀ id, id ≠ id0 → m' id = m id) (hbelow : Below C.w0.heap.size C.w0 w')
    (hkeep : ∀ b o v, K b o v → w'.cell? ⟨b, o, none⟩ = w.cell? ⟨b, o, none⟩)
    (hother : ∀ (id : Nat) x b, id ≠ id0 → σ[id]? = some x → b ∈ blk m id x → w'.heap[b]? = w.heap[b]?)
    (hnew : OInv m' K w' id0 x0) (hbase : ∀ b, b ∈ blk m' id0 x0 → C.w0.heap.size ≤ b)
    (hfresh : ∀ b, b ∈ blk m' id0 x0 → ∀ (id : Nat) x, id ≠ id0 → σ[id]? = some x → b ∉ blk m id x) : Bears C m' K σ' w' := by
  have hx : Ext m K m' K := ⟨hm, fun _ _ _ h => h⟩
  have hblk : ∀ (id : Nat) x, id ≠ id0 → σ[id]? = some x → blk m' id x = blk m id x := fun id x hne h => (hB.obj id x h).blk_some (fun ver l => hm id ver l)
  refine ⟨hbelow, fun b o v h => ⟨by rw [hkeep b o v h]; exact (hB.keep b o v h).1, (hB.keep b o v h).2⟩, fun id ver l h => ?_, fun id x h => ?_, fun id x b h hb => ?_, fun id x id' x' b h h' hb hb' => ?_, fun g a h => (hB.glob g a h).mono hx, hB.old⟩
  · by_cases e : id = id0
    · subst e; exact hid
    · rw [hm' id e] at h
      exact Nat.lt_of_lt_of_le (hB.dom _ _ _ h) hlen
  · rcases hσ id x h with ⟨rfl, rfl⟩ | ⟨hne, hs⟩
    · exact hnew
    · exact (hB.obj id x hs).frame hx (hm' id hne) (fun b hb => hother id x b hne hs hb)
  · rcases hσ id x h with ⟨rfl, rfl⟩ | ⟨hne, hs⟩
    · exact hbase b hb
    · rw [hblk id x hne hs] at hb
      exact hB.base id x b hs hb
  · rcases hσ id x h with ⟨rfl, rfl⟩ | ⟨hne, hs⟩ <;> rcases hσ id' x' h' with ⟨rfl, rfl⟩ | ⟨hne', hs'⟩
    · rfl
    · rw [hblk id' x' hne' hs'] at hb'
      exact absurd hb' (hfresh b hb id' x' hne' hs')
    · rw [hblk id x hne hs] at hb
      exact absurd hb (hfresh b hb' id x hne hs)
    · rw [hblk id x hne hs] at hb
      rw [hblk id' x' hne' hs'] at hb'
      exact hB.apart id x id' x' b hs hs' hb hb'
/-- The heap's own look alone counts. -/
theorem Bears.of_heap {C : Ctx} {m K σ w w'} (hB : Bears C m K σ w) (hh : w'.heap = w.heap) (h1 : w'.os = w.os) (h2 : w'.tape = w.tape) (h3 : w'.output = w.output) : Bears C m K σ w' := by
  have hc : ∀ a, w'.cell? a = w.cell? a := fun a => by simp [World.cell?, hh]
  exact ⟨hB.below.trans ⟨h1, h2, h3, by rw [hh]; exact Nat.le_refl _, fun _ _ => by rw [hh]⟩, fun b o v h => by rw [hc]; exact hB.keep b o v h, hB.dom,
    fun id x h => (hB.obj id x h).frame (Ext.refl _ _) rfl (fun b _ => by rw [hh]), hB.base, hB.apart, hB.glob, hB.old⟩
theorem Bears.drew {C : Ctx} {m K σ w} (hB : Bears C m K σ w) : Bears C m K σ w.drew := hB.of_heap rfl rfl rfl rfl

/-- The place of an object, told anew. -/
def setMp (m : Mp) (id ver : Nat) (l : Loc) : Mp := fun i v => if i = id ∧ v = ver then some l else m i v
theorem setMp_same (m : Mp) (id ver : Nat) (l : Loc) : setMp m id ver l id ver = some l := by simp [setMp]
theorem setMp_new {m : Mp} {id ver : Nat} {l : Loc} (h : m id ver = none) : ∀ i v x, m i v = some x → setMp m id ver l i v = some x := by
  intro i v x hx
  unfold setMp
  split
  · rename_i e
    rw [e.1, e.2, h] at hx; cases hx
  · exact hx
theorem setMp_other (m : Mp) (id ver : Nat) (l : Loc) (i : Nat) (h : i ≠ id) : setMp m id ver l i = m i := by
  funext v
  simp [setMp, h]
theorem get_append_new {σ : Store} {x0 : SObj} {id : Nat} {x : SObj} (h : (σ ++ [x0])[id]? = some x) : (id = σ.length ∧ x = x0) ∨ (id ≠ σ.length ∧ σ[id]? = some x) := by
  by_cases hl : id < σ.length
  · rw [List.getElem?_append_left hl] at h
    exact .inr ⟨by omega, h⟩
  · rw [List.getElem?_append_right (by omega)] at h
    have : id - σ.length = 0 := by
      have := (List.getElem?_eq_some_iff.1 h).1
      simp at this; omega
    rw [this] at h
    simp at h
    exact .inl ⟨by omega, h.symm⟩
theorem get_set {σ : Store} {id0 : Nat} {x0 : SObj} (h0 : id0 < σ.length) {id : Nat} {x : SObj} (h : (σ.set id0 x0)[id]? = some x) : (id = id0 ∧ x = x0) ∨ (id ≠ id0 ∧ σ[id]? = some x) := by
  by_cases e : id = id0
  · subst e
    rw [List.getElem?_set_self h0] at h
    exact .inl ⟨rfl, (Option.some.inj h).symm⟩
  · rw [List.getElem?_set_ne (Ne.symm e)] at h
    exact .inr ⟨e, h⟩
theorem alloc_heap_new (w : World) (o : Obj) : (w.alloc o).heap[w.heap.size]? = some o := heap_alloc_new w o
theorem alloc_heap_old (w : World) (o : Obj) (k : Nat) (h : k < w.heap.size) : (w.alloc o).heap[k]? = w.heap[k]? := Below.heap_alloc w o k h
theorem alloc_cell_old (w : World) (o : Obj) (b i : Nat) (h : b < w.heap.size) : (w.alloc o).cell? ⟨b, i, none⟩ = w.cell? ⟨b, i, none⟩ := by
  simp [World.cell?, alloc_heap_old w o b h]
/-- A new object over a new block. -/
theorem Bears.alloc {C : Ctx} {m : Mp} {K : KS} {σ : Store} {w : World} (hB : Bears C m K σ w) (x0 : SObj) (ver : Nat) (l : Loc) (o : Obj)
    (hblk : ∀ b, b ∈ blk (setMp m σ.length ver l) σ.length x0 → b = w.heap.size) (hnew : OInv (setMp m σ.length ver l) K (w.alloc o) σ.length x0) :
    Bears C (setMp m σ.length ver l) K (σ ++ [x0]) (w.alloc o) ∧ Ext m K (setMp m σ.length ver l) K := by
  have hnone : m σ.length ver = none := by
    cases h : m σ.length ver with
    | none => rfl
    | some x => exact absurd (hB.dom _ _ _ h) (Nat.lt_irrefl _)
  have hsz : C.w0.heap.size ≤ w.heap.size := hB.below.size
  refine ⟨hB.step σ.length x0 (fun id x h => get_append_new h) (by simp) (by simp) (setMp_new hnone) (fun id h => setMp_other _ _ _ _ _ h) (hB.below.alloc hsz o)
    (fun b i v h => alloc_cell_old _ _ _ _ (hB.keep_lt h)) (fun id x b hne hs hb => alloc_heap_old _ _ _ (hB.lt hs hb)) hnew ?_ ?_, ⟨setMp_new hnone, fun _ _ _ h => h⟩⟩
  · intro b hb
    have := hblk b hb; subst this
    exact hsz
  · intro b hb id x hne hs hx
    have := hblk b hb; subst this
    exact absurd (hB.lt hs hx) (Nat.lt_irrefl _)
/-- A new variable. -/
theorem Bears.alloc_cells {C : Ctx} {m : Mp} {K : KS} {σ : Store} {w : World} (hB : Bears C m K σ w) (t : TypeId) (cs : List AV) (vs : Array Value) (hl : cs.length = vs.size)
    (hr : ∀ (j : Nat) a v, cs[j]? = some a → vs[j]? = some v → ARep m K a v ∧ v.oneCell' = true) :
    ∃ m', Bears C m' K (σ ++ [.cells t cs]) (w.alloc (.cells vs t)) ∧ Ext m K m' K ∧ ARep m' K (.ptr σ.length 0) (.pointer (some ⟨w.heap.size, 0, none⟩)) := by
  have hx : Ext m K (setMp m σ.length 0 (.at w.heap.size 0 0)) K := by
    refine ⟨setMp_new ?_, fun _ _ _ h => h⟩
    cases h : m σ.length 0 with
    | none => rfl
    | some x => exact absurd (hB.dom _ _ _ h) (Nat.lt_irrefl _)
  obtain ⟨h1, h2⟩ := hB.alloc (.cells t cs) 0 (.at w.heap.size 0 0) (.cells vs t) (fun b hb => by simpa [blk, Loc.blk, setMp_same] using hb)
    ⟨w.heap.size, 0, 0, vs, setMp_same _ _ _ _, alloc_heap_new _ _, hl, fun j a v x y => ⟨(hr j a v x y).1.mono hx, (hr j a v x y).2⟩, fun o v h => absurd (hB.keep_lt h) (Nat.lt_irrefl _)⟩
  exact ⟨_, h1, h2, .ptr _ _ _ _ _ (setMp_same _ _ _ _)⟩
/-- A new array: its first elements are these, behind them there may be room. -/
theorem Bears.alloc_arr {C : Ctx} {m : Mp} {K : KS} {σ : Store} {w : World} (hB : Bears C m K σ w) (t : TypeId) (es cap : Nat) (xs : List PV) (vs : Array Value) (fr : Nat × Nat) (hsz : vs.size = cap * es) (hle : xs.length ≤ cap) (hcap : cap ≤ maxLen)
    (he : ∀ x ∈ xs, x.cells.length = es) (hr : ∀ (j : Nat) p v, (flat xs)[j]? = some p → vs[j]? = some v → PRep K p v ∧ v.oneCell' = true) (hfr : ∀ j, j < cap * es → ¬ (fr.1 ≤ j ∧ j < fr.2)) :
    ∃ m', Bears C m' K (σ ++ [.arr es xs false]) (w.alloc (.cells vs t fr)) ∧ Ext m K m' K ∧ ARep m' K (.arr σ.length xs.length 0 xs.length) (.slice (some ⟨w.heap.size, 0, none⟩) xs.length cap) := by
  obtain ⟨h1, h2⟩ := hB.alloc (.arr es xs false) xs.length (.at w.heap.size cap es) (.cells vs t fr) (fun b hb => by simpa [blk, Loc.blk, setMp_same] using hb)
    ⟨fun ver l h => by
        unfold setMp at h
        split at h
        · rename_i e; exact Nat.le_of_eq e.2
        · exact absurd (hB.dom _ _ _ h) (Nat.lt_irrefl _),
      .inr ⟨w.heap.size, cap, vs, t, fr, setMp_same _ _ _ _, alloc_heap_new _ _, hle, hcap, hsz, he, hr, fun j _ h => hfr j h, fun j v h => absurd (hB.keep_lt h) (Nat.lt_irrefl _)⟩⟩
  exact ⟨_, h1, h2, .arr _ _ _ _ _ _ _ _ _ (setMp_same _ _ _ _) rfl (by simp) hle (.inr (by simp))⟩

theorem splice_get {α : Type} (cs : List α) (off : Nat) (vs : List α) (h : off + vs.length ≤ cs.length) (k : Nat) :
    (splice cs off vs)[k]? = if off ≤ k ∧ k < off + vs.length then vs[k - off]? else cs[k]? := by
  unfold splice
  have h1 : (cs.take off).length = off := by rw [List.length_take]; omega
  by_cases a : k < off
  · rw [List.getElem?_append_left (by omega), List.getElem?_take, if_pos a, if_neg (by omega)]
  · rw [List.getElem?_append_right (by omega), h1]
    by_cases b : k < off + vs.length
    · rw [List.getElem?_append_left (by omega), if_pos (by omega)]
    · rw [List.getElem?_append_right (by omega), if_neg (by omega), List.getElem?_drop]
      congr 1; omega
theorem splice_length {α : Type} (cs : List α) (off : Nat) (vs : List α) (h : off + vs.length ≤ cs.length) : (splice cs off vs).length = cs.length := by
  unfold splice
  simp only [List.length_append, List.length_take, List.length_drop]; omega
/-- A store into a variable. -/
theorem Bears.store_cells {C : Ctx} {m : Mp} {K : KS} {σ : Store} {w : World} (hB : Bears C m K σ w) {id : Nat} {ty : TypeId} {cs : List AV} (ho : σ[id]? = some (.cells ty cs)) {b cap es : Nat} (hm : m id 0 = some (.at b cap es))
    (off : Nat) (vs : List AV) (us : List Value) (hle : off + vs.length ≤ cs.length) (hl : vs.length = us.length) (hr : ∀ (j : Nat) a v, vs[j]? = some a → us[j]? = some v → ARep m K a v ∧ v.oneCell' = true) :
    ∃ w', (storeCells ⟨b, off, none⟩ us).run C.P w = .ok () w' ∧ Bears C m K (σ.set id (.cells ty (splice cs off vs))) w' := by
  obtain ⟨b', cap', es', arr, hm', hh, hsz, hcr, hk⟩ := hB.obj id _ ho
  rw [hm] at hm'; cases hm'
  have h1 : ∀ v ∈ us, v.oneCell' = true := by
    intro v hv
    obtain ⟨j, hj⟩ := List.getElem?_of_mem hv
    have hlt : j < vs.length := by rw [hl]; exact (List.getElem?_eq_some_iff.1 hj).1
    exact (hr j _ v (List.getElem?_eq_getElem hlt) hj).2
  obtain ⟨w', cur', hrun, hs, hb', hsz', hget⟩ := run_storeCells C.P b off ty (0, 0) us 0 arr w hh (by omega) (fun j _ _ => by simp) h1
  have hid : id < σ.length := (List.getElem?_eq_some_iff.1 ho).1
  have hblk : b ∈ blk m id (.cells ty cs) := by simp [blk, Loc.blk, hm]
  refine ⟨w', hrun, hB.step id (.cells ty (splice cs off vs)) (fun i x h => get_set hid h) (by simp) (by simpa using hid) (fun _ _ _ h => h) (fun _ _ => rfl) (hs.below hB.below (hB.base id _ b ho hblk)) ?_ ?_ ?_ ?_ ?_⟩
  · intro b2 o v h2
    have hne : b2 ≠ b := fun e => hk o v (e ▸ h2)
    simp [World.cell?, hs.block b2 hne]
  · intro id' x b2 hne hs2 hb2
    refine hs.block b2 (fun e => ?_)
    subst e
    exact hne (hB.apart id' x id _ b2 hs2 ho hb2 hblk)
  · refine ⟨b, cap, es, cur', hm, hb', by rw [splice_length cs off vs hle, hsz', hsz], fun j a v hj hv => ?_, hk⟩
    rw [splice_get cs off vs hle] at hj
    rw [hget] at hv
    simp only [Nat.add_zero] at hv
    by_cases c : off ≤ j ∧ j < off + vs.length
    · rw [if_pos c] at hj
      rw [if_pos (by omega)] at hv
      exact hr _ _ _ hj hv
    · rw [if_neg c] at hj
      rw [if_neg (by omega)] at hv
      exact hcr j a v hj hv
  · intro b2 h2
    have : b2 = b := by simpa [blk, Loc.blk, hm] using h2
    rw [this]; exact hB.base id _ b ho hblk
  · intro b2 h2 id' x hne hs2 hx
    have : b2 = b := by simpa [blk, Loc.blk, hm] using h2
    subst this
    exact hne (hB.apart id' x id _ b2 hs2 ho hx hblk)

end Go.Sv
