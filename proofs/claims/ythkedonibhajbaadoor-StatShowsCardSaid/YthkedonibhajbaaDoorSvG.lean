/- Structs and slices that are written out; conversions. No program stands in this text. -/
import Derived.Test.YthkedonibhajbaaDoorSvF
set_option linter.unusedVariables false
set_option linter.unusedSimpArgs false
namespace Go.Sv
open Go Go.RowKit

/-- Cells, one by one. -/
def CReps (m : Mp) (K : KS) (cs : List AV) (vs : Array Value) : Prop :=
  cs.length = vs.size ∧ ∀ (j : Nat) a v, cs[j]? = some a → vs[j]? = some v → ARep m K a v ∧ v.oneCell' = true
theorem cells_of_pv {a : AV} {v : Value} {m : Mp} {K : KS} (h : ARep m K a v) (h1 : a.cells.all AV.one = true) : CReps m K a.cells v.cells := cells_rep h h1
theorem fill_sound {m : Mp} {K : KS} {e : Operand → AV} {ρ : Operand → Value} (he : ∀ x, ARep m K (e x) (ρ x)) {place place' : Nat → Option (Nat × Nat)} (hp : ∀ i os, place i = some os → place' i = some os) :
    ∀ (l : List (Nat × Operand)) (cs : List AV) (vs : Array Value) (out : List AV), fillA place (l.map fun p => (p.1, e p.2)) cs = some out → CReps m K cs vs →
      ∃ vs', Instr.fill place' vs (l.map fun p => (p.1, ρ p.2)) = some vs' ∧ CReps m K out vs'
  | [], cs, vs, out, h, hr => by
    simp only [List.map_nil, fillA, Option.some.injEq] at h
    subst h
    exact ⟨vs, rfl, hr⟩
  | (i, x) :: l, cs, vs, out, h, hr => by
    simp only [List.map_cons, fillA] at h
    split at h
    · rename_i off size hpl
      split at h
      · rename_i hc
        obtain ⟨hsz, hle, h1⟩ := hc
        have hcr := cells_rep (he x) h1
        have hvsz : (ρ x).cells.size = size := by rw [← hcr.1, hsz]
        obtain ⟨g1, g2⟩ := Great.foldl_set off (ρ x).cells.toList 0 vs
        have hnew : CReps m K (splice cs off (e x).cells) ((((ρ x).cells.toList.zipIdx 0).foldl (fun cs (x : Value × Nat) => cs.setIfInBounds (off + x.2) x.1) vs)) := by
          refine ⟨by rw [splice_length _ _ _ (by omega), g1]; exact hr.1, fun j a v ha hv => ?_⟩
          rw [splice_get _ _ _ (by omega)] at ha
          rw [g2 j] at hv
          simp only [Nat.add_zero, Array.length_toList, hvsz] at hv
          by_cases hj : off ≤ j ∧ j < off + (e x).cells.length
          · rw [if_pos hj] at ha
            rw [if_pos ⟨hj.1, by omega, by have := hr.1; omega⟩] at hv
            exact hcr.2 _ a v ha (by simpa using hv)
          · rw [if_neg hj] at ha
            rw [if_neg (by omega)] at hv
            exact hr.2 j a v ha hv
        obtain ⟨vs', hf, hr'⟩ := fill_sound he hp l _ _ out h hnew
        refine ⟨vs', ?_, hr'⟩
        simp only [List.map_cons]
        unfold Instr.fill
        simp only [hp _ _ hpl, hvsz]
        rw [if_neg (by have := hr.1; simp; omega)]
        rw [← hf]
        congr 1
        rw [← Array.foldl_toList, Array.toList_zipIdx]
      · cases h
    · cases h
theorem mkAgg_cells (cs : List AV) : (mkAgg cs).cells = cs := by
  unfold mkAgg
  cases h : allPv cs with
  | none => rfl
  | some ps => rw [allPv_map h]; rfl
theorem ofLeaf_cells (v : Value) : (AV.ofLeaf v).cells = [AV.ofLeaf v] := by
  unfold AV.ofLeaf
  split <;> first | rfl | (split <;> rfl)
theorem zero_reps {m : Mp} {K : KS} {P : Program} {t : TypeId} {ti : TI} (hT : TIok P t ti) : CReps m K (AV.ofValue ti.zero).cells ti.zero.cells := by
  have hz := hT.zero.2
  have single : ∀ v : Value, (∀ (j : Nat) (u : Value), v.cells[j]? = some u → u.oneCell' = true) → v.cells = #[v] → CReps m K (AV.ofLeaf v).cells v.cells := by
    intro v hv e
    rw [e] at hv
    rw [ofLeaf_cells, e]
    refine ⟨rfl, fun j a u ha hu => ?_⟩
    cases j with
    | zero => simp at ha hu; subst ha; subst hu; exact ⟨ofLeaf_rep m K _, hv 0 _ rfl⟩
    | succ j => simp at ha
  unfold AV.ofValue
  split
  · rename_i cs hcs
    rw [hcs] at hz
    have : cs.toList.all Value.oneCell' = true := by
      rw [List.all_eq_true]
      intro v hv
      obtain ⟨j, hj⟩ := List.getElem?_of_mem hv
      exact hz j v (by simpa [Value.cells] using hj)
    rw [this, hcs]
    simp only [mkAgg_cells]
    refine ⟨by simp [Value.cells], fun j a v ha hv => ?_⟩
    simp only [List.getElem?_map, Option.map_eq_some_iff] at ha
    obtain ⟨u, hu, rfl⟩ := ha
    have : u = v := Option.some.inj (hu.symm.trans (by simpa [Value.cells] using hv))
    subst this
    exact ⟨ofLeaf_rep m K u, hz j u hv⟩
  · rename_i h
    refine single _ hz ?_
    cases hv : ti.zero <;> first | rfl | exact absurd hv (h _)
/-- A table that is true of the program. -/
def TabOK (C : Ctx) : Prop := ∀ t ti, C.tab t = some ti → TIok C.P t ti
theorem build_sound {C : Ctx} (hC : TabOK C) {m : Mp} {K : KS} {w : World} {e : Operand → AV} {ρ : Operand → Value} (he : ∀ x, ARep m K (e x) (ρ x)) {t : TypeId} {ti : TI} (hT : TIok C.P t ti) {l : List (Nat × Operand)} {r : AV}
    (h : aBuild C.tab ti (l.map fun p => (p.1, e p.2)) = some r) :
    ∃ v, (Instr.build t (l.map fun p => (p.1, ρ p.2)).toArray).run C.P w = .ok v w ∧ ARep m K r v := by
  obtain ⟨i, d, hi, hu, hz, hsz, _, htd, _⟩ := hT
  have hT : TIok C.P t ti := ⟨i, d, hi, hu, hz, hsz, by assumption, htd, by assumption⟩
  have hzr := zero_reps (m := m) (K := K) hT
  unfold aBuild at h
  cases d with
  | struct fields =>
    simp only [TD.of] at htd
    rw [← htd] at h
    simp only at h
    split at h
    · rename_i hall
      cases hf : fillA (placeOf C.tab (.struct (fields.toList.map fun f => (f.offset, f.type)))) (l.map fun p => (p.1, e p.2)) (AV.ofValue ti.zero).cells with
      | none => rw [hf] at h; simp at h
      | some out =>
        rw [hf] at h
        simp only [Option.map_some, Option.some.injEq] at h
        subst h
        have hpl : ∃ places, fields.toList.mapM (fun f => (C.P.info? f.type).map fun i => (f.offset, i.size)) = some places ∧
            ∀ i os, placeOf C.tab (.struct (fields.toList.map fun f => (f.offset, f.type))) i = some os → places[i]? = some os := by
          have aux : ∀ fs : List Field, (fs.map fun f => (f.offset, f.type)).all (fun f => (C.tab f.2).isSome) = true →
              ∃ places, fs.mapM (fun f => (C.P.info? f.type).map fun i => (f.offset, i.size)) = some places ∧
                ∀ i os, placeOf C.tab (.struct (fs.map fun f => (f.offset, f.type))) i = some os → places[i]? = some os := by
            intro fs
            induction fs with
            | nil => intro _; exact ⟨[], rfl, fun i os h => by simp [placeOf] at h⟩
            | cons f r ih =>
              intro h
              simp only [List.map_cons, List.all_cons, Bool.and_eq_true] at h
              obtain ⟨fi, hfi⟩ := Option.isSome_iff_exists.1 h.1
              obtain ⟨places, hp1, hp2⟩ := ih h.2
              obtain ⟨j, hj, _, hjs, _⟩ := (hC _ _ hfi).info
              refine ⟨(f.offset, j.size) :: places, by simp [List.mapM_cons, hj, hp1], fun i os hi => ?_⟩
              cases i with
              | zero =>
                simp only [placeOf, List.map_cons, List.getElem?_cons_zero, hfi] at hi
                rw [hjs]; simpa using hi
              | succ i =>
                simp only [List.getElem?_cons_succ]
                refine hp2 i os ?_
                simpa [placeOf] using hi
          exact aux _ hall
        obtain ⟨places, hp1, hp2⟩ := hpl
        obtain ⟨vs', hfill, hr⟩ := fill_sound he hp2 l _ _ out hf hzr
        refine ⟨.agg vs', run_build w t _ vs' ?_, mkAgg_rep hr.1 (fun j a v h1 h2 => (hr.2 j a v h1 h2).1) (fun j v hv => ?_)⟩
        · unfold Program.built
          simp only [hi, hu, hz, hp1]
          simpa using hfill
        · have hlt : j < out.length := by rw [hr.1]; exact (Array.getElem?_eq_some_iff.1 hv).1
          exact (hr.2 j _ v (List.getElem?_eq_getElem hlt) hv).2
    · cases h
  | array n el =>
    simp only [TD.of] at htd
    rw [← htd] at h
    simp only at h
    split at h
    · rename_i hall
      obtain ⟨ei, hel⟩ := Option.isSome_iff_exists.1 hall
      cases hf : fillA (placeOf C.tab (.array n el)) (l.map fun p => (p.1, e p.2)) (AV.ofValue ti.zero).cells with
      | none => rw [hf] at h; simp at h
      | some out =>
        rw [hf] at h
        simp only [Option.map_some, Option.some.injEq] at h
        subst h
        obtain ⟨j, hj, _, hjs, _⟩ := (hC _ _ hel).info
        obtain ⟨vs', hfill, hr⟩ := fill_sound he (place' := fun i => some (i * j.size, j.size)) (fun i os h => by simpa [placeOf, hel, hjs] using h) l _ _ out hf hzr
        refine ⟨.agg vs', run_build w t _ vs' ?_, mkAgg_rep hr.1 (fun j a v h1 h2 => (hr.2 j a v h1 h2).1) (fun j v hv => ?_)⟩
        · unfold Program.built
          simp only [hi, hu, hz, hj]
          exact hfill
        · have hlt : j < out.length := by rw [hr.1]; exact (Array.getElem?_eq_some_iff.1 hv).1
          exact (hr.2 j _ v (List.getElem?_eq_getElem hlt) hv).2
    · cases h
  | _ => simp only [TD.of] at htd; rw [← htd] at h; simp at h

/-! ### Slices that are written out -/
theorem inOrder_parts {e : Operand → AV} {ρ : Operand → Value} : ∀ (l : List (Nat × Operand)) (k : Nat) (vs : List AV), inOrder k (l.map fun p => (p.1, e p.2)) = some vs →
    vs = l.map (fun p => e p.2) ∧ (l.map fun p => (p.1, ρ p.2)) = ((l.map fun p => ρ p.2).zipIdx k).map fun x => (x.2, x.1)
  | [], k, vs, h => by simp [inOrder] at h; subst h; simp
  | (i, x) :: l, k, vs, h => by
    simp only [List.map_cons, inOrder] at h
    split at h
    · rename_i hik
      subst hik
      split at h
      · rename_i r hr
        cases h
        obtain ⟨h1, h2⟩ := inOrder_parts (ρ := ρ) l (i + 1) r hr
        exact ⟨by simp [h1], by simp [List.zipIdx_cons, h2]⟩
      · cases h
    · cases h
theorem flat_reps {K : KS} : ∀ (ps : List PV) (vs : List Value), ps.length = vs.length → (∀ (j : Nat) p v, ps[j]? = some p → vs[j]? = some v → PRep K p v) →
    (flat ps).length = (vs.flatMap fun v => v.cells.toList).length ∧ ∀ (j : Nat) p v, (flat ps)[j]? = some p → (vs.flatMap fun v => v.cells.toList)[j]? = some v → PRep K p v ∧ v.oneCell' = true
  | [], [], _, _ => ⟨rfl, fun j p v h => by simp [flat] at h⟩
  | [], _ :: _, h, _ => by simp at h
  | _ :: _, [], h, _ => by simp at h
  | p :: ps, v :: vs, hl, hr => by
    obtain ⟨h1, h2⟩ := flat_reps ps vs (by simpa using hl) (fun j p v hp hv => hr (j + 1) p v (by simpa using hp) (by simpa using hv))
    have hpv := (hr 0 p v rfl rfl).cells
    simp only [flat, List.flatMap_cons, List.length_append] at *
    have hl2 : p.cells.length = v.cells.toList.length := by simpa using hpv.1
    refine ⟨by omega, fun j q u hq hu => ?_⟩
    by_cases hj : j < p.cells.length
    · rw [List.getElem?_append_left hj] at hq
      rw [List.getElem?_append_left (by omega)] at hu
      exact hpv.2 j q u hq (by simpa using hu)
    · rw [List.getElem?_append_right (by omega)] at hq
      rw [List.getElem?_append_right (by omega)] at hu
      rw [← hl2] at hu
      exact h2 _ q u hq hu
/-- A new block whose cells stay for good. -/
theorem Bears.commit_new {C : Ctx} {m : Mp} {K : KS} {σ : Store} {w : World} (hB : Bears C m K σ w) (t : TypeId) (vs : Array Value) (fr : Nat × Nat) (h1 : ∀ (j : Nat) v, vs[j]? = some v → v.oneCell' = true) :
    ∃ K' : KS, Bears C m K' σ (w.alloc (.cells vs t fr)) ∧ Ext m K m K' ∧ ∀ (j : Nat) v, vs[j]? = some v → K' w.heap.size j v := by
  have hx : Ext m K m (fun b o v => K b o v ∨ (b = w.heap.size ∧ vs[o]? = some v)) := ⟨fun _ _ _ h => h, fun _ _ _ h => .inl h⟩
  have hsz : C.w0.heap.size ≤ w.heap.size := hB.below.size
  refine ⟨fun b o v => K b o v ∨ (b = w.heap.size ∧ vs[o]? = some v), ⟨hB.below.alloc hsz _, fun b o v h => ?_, hB.dom, fun id x h => ?_, hB.base, hB.apart, fun g a h => (hB.glob g a h).mono hx, fun b o v h => h.elim (hB.old b o v) (fun h => .inr (by rw [h.1]; exact hsz))⟩, hx, fun j v h => .inr ⟨rfl, h⟩⟩
  · rcases h with h | ⟨rfl, h⟩
    · rw [alloc_cell_old _ _ _ _ (hB.keep_lt h)]
      exact hB.keep b o v h
    · rw [cell_heap _ _ _ (alloc_heap_new _ _)]
      exact ⟨h, h1 _ _ h⟩
  · have hlt : ∀ b, b ∈ blk m id x → b < w.heap.size := fun b hb => hB.lt h hb
    have ho := hB.obj id x h
    cases x with
    | cells ty cs =>
      obtain ⟨b, cap, es, arr, hm, hh, hl, hr, hk⟩ := ho
      have hb := hlt b (by simp [blk, Loc.blk, hm])
      refine ⟨b, cap, es, arr, hm, by rw [alloc_heap_old _ _ _ hb]; exact hh, hl, fun j a v x y => ⟨(hr j a v x y).1.mono hx, (hr j a v x y).2⟩, fun o v hK => ?_⟩
      rcases hK with hK | ⟨e, _⟩
      · exact hk o v hK
      · omega
    | arr es xs fz =>
      obtain ⟨hver, ho⟩ := ho
      refine ⟨hver, ?_⟩
      rcases ho with ⟨rfl, hm⟩ | ⟨b, cap, arr, ty, fr', hm, hh, hc, hmx, hasz, hes, hr, hfr, hk⟩
      · exact .inl ⟨rfl, hm⟩
      · have hb := hlt b (by simp [blk, Loc.blk, hm])
        refine .inr ⟨b, cap, arr, ty, fr', hm, by rw [alloc_heap_old _ _ _ hb]; exact hh, hc, hmx, hasz, hes, fun j p v x y => ⟨(hr j p v x y).1.mono hx.2, (hr j p v x y).2⟩, hfr, fun j v hK => ?_⟩
        rcases hK with hK | ⟨e, _⟩
        · exact hk j v hK
        · omega
    | bld ty el s =>
      obtain ⟨b, cap, es, p, v, hm, hh, hp, hk, hver, ho⟩ := ho
      have hb := hlt b (by simp [blk, Loc.blk, hm])
      refine ⟨b, cap, es, p, v, hm, by rw [alloc_heap_old _ _ _ hb]; exact hh, hp, fun o v hK => ?_, hver, ?_⟩
      · rcases hK with hK | ⟨e, _⟩
        · exact hk o v hK
        · omega
      · rcases ho with ho | ⟨b2, cap2, arr, fr, hm2, hne, hv2, hh2, q1, q2, q3, q4, q5, q6⟩
        · exact .inl ho
        · have hb2 := hlt b2 (by simp [blk, Loc.blk, hm2])
          refine .inr ⟨b2, cap2, arr, fr, hm2, hne, hv2, by rw [alloc_heap_old _ _ _ hb2]; exact hh2, q1, q2, q3, q4, q5, fun o v hK => ?_⟩
          rcases hK with hK | ⟨e, _⟩
          · exact q6 o v hK
          · omega
    | gone => trivial
theorem flatMap_len {vs : List Value} {s : Nat} (h : ∀ v ∈ vs, v.cells.size = s) : (vs.flatMap fun v => v.cells.toList).length = vs.length * s := by
  induction vs with
  | nil => simp
  | cons v r ih =>
    simp only [List.flatMap_cons, List.length_append, List.length_cons, Array.length_toList]
    rw [ih (fun u hu => h u (List.mem_cons_of_mem _ hu)), h v (by simp), Nat.add_mul]; omega
theorem buildSlice_sound {C : Ctx} {m : Mp} {K : KS} {σ : Store} {w : World} (hB : Bears C m K σ w) {e : Operand → AV} {ρ : Operand → Value} (he : ∀ x, ARep m K (e x) (ρ x)) {t el : TypeId} {ti ei : TI} (hT : TIok C.P t ti) (hd : ti.td = .slice el) (hE : TIok C.P el ei)
    {own : Bool} {len : Nat} {l : List (Nat × Operand)} {r : AV} {σ' : Store} (h : aBuildSlice σ ei own len (l.map fun p => (p.1, e p.2)) = some (r, σ')) :
    ∃ v w' m' K', (Instr.buildSlice t len (l.map fun p => (p.1, ρ p.2)).toArray).run C.P w = .ok v w' ∧ Bears C m' K' σ' w' ∧ Ext m K m' K' ∧ ARep m' K' r v := by
  obtain ⟨i, hi, hz, his, hib⟩ := hE.info
  have hu := hT.slice hd
  unfold aBuildSlice at h
  split at h
  · cases h
  · rename_i vs hin
    split at h
    · cases h
    · rename_i ps hps
      split at h
      · rename_i hc
        obtain ⟨hlen, hall, hsmall, hpos⟩ := hc
        have hes := all_len hall
        obtain ⟨hvs, hparts⟩ := inOrder_parts (ρ := ρ) l 0 vs hin
        have hev := allPv_map hps
        have hl : ps.length = l.length := by
          have := congrArg List.length (hvs.symm.trans hev)
          simpa using this.symm
        have hpr : ∀ (j : Nat) p v, ps[j]? = some p → (l.map fun p => ρ p.2)[j]? = some v → PRep K p v := by
          intro j p v hp hv
          simp only [List.getElem?_map, Option.map_eq_some_iff] at hv
          obtain ⟨x, hx, rfl⟩ := hv
          have h2 : (l.map fun p => e p.2)[j]? = some (.pv p) := by rw [← hvs, hev]; simp [hp]
          simp only [List.getElem?_map, hx, Option.map_some, Option.some.injEq] at h2
          have := he x.2
          rw [h2] at this
          exact this.pv_inv
        obtain ⟨hfl, hfr⟩ := flat_reps ps (l.map fun p => ρ p.2) (by simpa using hl) hpr
        have hvsz : ∀ v ∈ (l.map fun p => ρ p.2), v.cells.size = ei.size := by
          intro v hv
          obtain ⟨j, hj⟩ := List.getElem?_of_mem hv
          have hlt : j < ps.length := by rw [hl]; have := (List.getElem?_eq_some_iff.1 hj).1; simpa using this
          rw [← (hpr j _ v (List.getElem?_eq_getElem hlt) hj).cells.1]
          exact hes _ (List.getElem_mem hlt)
        have hfm : (((l.map fun p => ρ p.2).flatMap fun v => v.cells.toList).toArray).size = len * ei.size := by
          rw [List.size_toArray, flatMap_len hvsz, List.length_map, ← hl, hlen]
        have hrun : (Instr.buildSlice t len (l.map fun p => (p.1, ρ p.2)).toArray).run C.P w = .ok (.slice (some ⟨w.heap.size, 0, none⟩) len len) (w.alloc (.cells ((l.map fun p => ρ p.2).flatMap fun v => v.cells.toList).toArray el)) := by
          by_cases h0 : len = 0
          · subst h0
            have hln : l = [] := List.eq_nil_of_length_eq_zero (by omega)
            subst hln
            simp [Instr.buildSlice, run_underlying hu, sizeOf, typeInfo, hi, Instr.fill, newRow, Array.range_zero']
          · refine run_buildSlice w t el len _ _ i ei.zero hu hi hz (by rw [his]; omega) (by rw [his]; intro e; rcases Nat.mul_eq_zero.1 e with h | h <;> omega) ?_
            rw [his]
            show Instr.fill _ _ (l.map fun p => (p.1, ρ p.2)) = _
            rw [hparts]
            exact Great.fill_whole hpos _ _ hvsz (by simp; rw [← hl, hlen])
        split at h
        · simp only [Option.some.injEq, Prod.mk.injEq] at h
          obtain ⟨rfl, rfl⟩ := h
          subst hlen
          obtain ⟨m', h1, h2, h3⟩ := hB.alloc_arr el ei.size ps.length ps ((l.map fun p => ρ p.2).flatMap fun v => v.cells.toList).toArray (0, 0) hfm (Nat.le_refl _) (by
            have : ps.length ≤ ps.length * ei.size := Nat.le_mul_of_pos_right _ hpos
            exact Nat.le_trans this (Nat.le_trans hsmall (by decide))) hes (fun j p v hp hv => hfr j p v hp (by simpa using hv)) (fun j _ => by simp)
          exact ⟨_, _, m', K, hrun, h1, h2, h3⟩
        · simp only [Option.some.injEq, Prod.mk.injEq] at h
          obtain ⟨rfl, rfl⟩ := h
          obtain ⟨K', h1, h2, h3⟩ := hB.commit_new el ((l.map fun p => ρ p.2).flatMap fun v => v.cells.toList).toArray (0, 0) (fun j v hv => by
            have hlt : j < (flat ps).length := by rw [hfl]; have := (Array.getElem?_eq_some_iff.1 hv).1; simpa using this
            exact (hfr j _ v (List.getElem?_eq_getElem hlt) (by simpa using hv)).2)
          refine ⟨_, _, m, K', hrun, h1, h2, .pv _ _ ?_⟩
          rw [← hlen]
          exact .sl ps ei.size _ 0 _ ((l.map fun p => ρ p.2).flatMap fun v => v.cells.toList) (Nat.le_refl _) hes hfl (fun j p v hp hv => (hfr j p v hp hv).1.mono h2.2) (fun j v hv => by
            rw [Nat.zero_add]
            exact h3 j v (by simpa using hv))
      · cases h

/-! ### Conversions -/
theorem TIok.under {P : Program} {t : TypeId} {ti : TI} (h : TIok P t ti) : ∃ d, P.underlying t = some d ∧ TD.of d = ti.td := by
  obtain ⟨i, d, _, hu, _, _, _, e, _⟩ := h
  exact ⟨d, hu, e⟩
theorem TIok.int {P : Program} {t : TypeId} {ti : TI} (h : TIok P t ti) {k : IntKind} (hd : ti.td = .int k) : P.underlying t = some (.int k) := by
  obtain ⟨d, hu, e⟩ := h.under
  rw [hd] at e
  cases d <;> simp [TD.of] at e
  subst e
  exact hu
theorem TIok.str {P : Program} {t : TypeId} {ti : TI} (h : TIok P t ti) (hd : ti.td = .str) : P.underlying t = some .string := by
  obtain ⟨d, hu, e⟩ := h.under
  rw [hd] at e
  cases d <;> simp [TD.of] at e
  exact hu
theorem bytesOf_ints {xs : List PV} {s : List UInt8} (h : bytesOf xs = some s) : ∃ ns : List Int, xs = ns.map (PV.int .u8) ∧ s = ns.map fun n => UInt8.ofNat n.toNat := by
  induction xs generalizing s with
  | nil => simp [bytesOf] at h; subst h; exact ⟨[], rfl, rfl⟩
  | cons x r ih =>
    simp only [bytesOf] at h
    split at h
    · rename_i b bs hb hr
      cases h
      obtain ⟨ns, rfl, rfl⟩ := ih hr
      cases x with
      | int k n =>
        cases k <;> simp [byteOfPV] at hb
        subst hb
        exact ⟨n :: ns, rfl, rfl⟩
      | _ => simp [byteOfPV] at hb
    · cases h
theorem foldl_push_ns (ns : List Int) (r : ByteArray) : ns.foldl (fun r n => r.push (UInt8.ofNat n.toNat)) r = ⟨r.data ++ (ns.map fun n => UInt8.ofNat n.toNat).toArray⟩ := by
  induction ns generalizing r with
  | nil => simp
  | cons n ns ih =>
    simp only [List.foldl_cons]
    rw [ih]
    simp [ByteArray.push]
theorem run_bytes_str {C : Ctx} {m K σ w} (hB : Bears C m K σ w) {src dst el : TypeId} (hs : C.P.underlying src = some (.slice el)) (hel : C.P.underlying el = some (.int .u8)) (hd : C.P.underlying dst = some .string)
    {a : AV} {x : Value} {xs : List PV} {s : List UInt8} (he : elems σ a = some xs) (hr : ARep m K a x) (hstr : ∀ s, a ≠ .pv (.str s)) (hb : bytesOf xs = some s) : (convert src dst x).run C.P w = .ok (.string ⟨s.toArray⟩) w := by
  obtain ⟨ns, rfl, rfl⟩ := bytesOf_ints hb
  obtain ⟨ad, c, rfl, hat⟩ := elems_at hB he hr (es := 1) (fun y hy => by obtain ⟨n, _, rfl⟩ := List.mem_map.1 hy; rfl) hstr
  rw [run_convert_bytes_string w src dst el ad _ c hs hel hd]
  cases ad with
  | none =>
    cases ns with
    | nil => rfl
    | cons n ns => obtain ⟨b, o, h, _⟩ := hat (by simp); cases h
  | some a =>
    have hcell : ∀ (j : Nat) v, (ns.map (Value.int .u8))[j]? = some v → w.cell? (a.add j) = some v := by
      intro j v hj
      have hne : ns ≠ [] := by intro e; subst e; simp at hj
      obtain ⟨b, o, e, hc⟩ := hat (by simpa using hne)
      cases e
      simp only [List.getElem?_map, Option.map_eq_some_iff] at hj
      obtain ⟨n, hn, rfl⟩ := hj
      have hf : flat (ns.map (PV.int .u8)) = ns.map (PV.int .u8) := by
        clear hat hc hn hne hb he hr
        induction ns with
        | nil => rfl
        | cons n r ih => simp only [flat, List.map_cons, List.flatMap_cons, PV.cells] at *; rw [ih]; rfl
      obtain ⟨v, hv, hr, _⟩ := hc j (.int .u8 n) (by rw [hf]; simp [hn])
      rw [addr_add]
      cases hr
      exact hv
    have hl := run_loadCells_list (P := C.P) w a (ns.map (Value.int .u8)) hcell
    simp only [List.length_map] at hl ⊢
    rw [run_bytesToString w a ns.length c ns hl, foldl_push_ns]
    have he0 : ByteArray.empty.data = #[] := rfl
    rw [he0]
    simp
theorem convert_sound {C : Ctx} (hC : TabOK C) {m : Mp} {K : KS} {σ : Store} {w : World} (hB : Bears C m K σ w) {src dst : TypeId} {ts td : TI} (hS : TIok C.P src ts) (hD : TIok C.P dst td) {x : AV} {xv : Value} (hx : ARep m K x xv) {r : AV} {σ' : Store}
    (h : aConvert σ C.tab ts.td td.td x = some (r, σ')) : ∃ v w' m' K', (convert src dst xv).run C.P w = .ok v w' ∧ Bears C m' K' σ' w' ∧ Ext m K m' K' ∧ ARep m' K' r v := by
  obtain ⟨ds, hus, hds⟩ := hS.under
  unfold aConvert at h
  split at h
  · rename_i k k' n heq
    simp only [Option.some.injEq, Prod.mk.injEq] at h
    obtain ⟨rfl, rfl⟩ := h
    cases hx.pv_inv
    refine ⟨.int k (k.wrap n), w, m, K, ?_, hB, Ext.refl _ _, .pv _ _ (.int _ _)⟩
    simp [convert, run_underlying hus, run_underlying (hD.int heq), Conv.intToInt]
  · rename_i s heq
    simp only [Option.some.injEq, Prod.mk.injEq] at h
    obtain ⟨rfl, rfl⟩ := h
    cases hx.pv_inv
    refine ⟨.string ⟨s.toArray⟩, w, m, K, ?_, hB, Ext.refl _ _, .pv _ _ (.str _)⟩
    simp [convert, run_underlying hus, run_underlying (hD.str heq)]
  · rename_i el s hsrc hdst
    split at h
    · rename_i ei hel
      split at h
      · rename_i hei
        split at h
        · rename_i hroom
          simp only [Option.some.injEq, Prod.mk.injEq] at h
          obtain ⟨rfl, rfl⟩ := h
          cases hx.pv_inv
          have hE := hC _ _ hel
          have hrun := run_bytes_of_string (P := C.P) w src dst el ⟨s.toArray⟩ (hS.str hsrc) (hD.slice hdst) (hE.int hei)
          have hsz : ByteArray.size ⟨s.toArray⟩ = s.length := by simp [ByteArray.size]
          rw [hsz] at hrun
          have hcap := grownCap_ge w s.length 0 el
          have hbs : (bytesRow ⟨s.toArray⟩ (grownCap w s.length 0 el)).size = grownCap w s.length 0 el * 1 := by
            simp [bytesRow, hsz]; omega
          obtain ⟨m', h1, h2, h3⟩ := hB.drew.alloc_arr el 1 (grownCap w s.length 0 el) (bytesPV s) (bytesRow ⟨s.toArray⟩ (grownCap w s.length 0 el)) ((bytesRow ⟨s.toArray⟩ (grownCap w s.length 0 el)).size, (bytesRow ⟨s.toArray⟩ (grownCap w s.length 0 el)).size + 1) hbs
            (by simpa [bytesPV] using hcap) (grownCap_le_maxLen w _ _ el (Nat.le_trans hroom.1 (by decide))) (fun y hy => by obtain ⟨b, _, rfl⟩ := List.mem_map.1 hy; rfl) (fun j p v hp hv => by
              have hfb : flat (bytesPV s) = bytesPV s := flat_bytes s
              rw [hfb] at hp
              unfold bytesPV at hp
              simp only [List.getElem?_map, Option.map_eq_some_iff] at hp
              obtain ⟨b, hb, rfl⟩ := hp
              have hlt : j < s.length := (List.getElem?_eq_some_iff.1 hb).1
              unfold bytesRow at hv
              rw [Array.getElem?_append_left (by simpa using hlt)] at hv
              simp only [Array.getElem?_map, List.getElem?_toArray, hb, Option.map_some, Option.some.injEq] at hv
              subst hv
              exact ⟨.int _ _, rfl⟩) (fun j hj => by simp only [hbs]; omega)
          refine ⟨_, _, m', K, hrun, h1, h2, ?_⟩
          simpa [bytesPV] using h3
        · cases h
      · cases h
    · cases h
  · rename_i el hsrc hdst hns
    split at h
    · rename_i ei hel
      have hE := hC _ _ hel
      split at h
      · rename_i xs hei
        cases hb : bytesOf xs with
        | none => rw [hb] at h; simp at h
        | some s =>
          rw [hb] at h
          simp only [Option.map_some, Option.some.injEq, Prod.mk.injEq] at h
          obtain ⟨rfl, rfl⟩ := h
          exact ⟨_, w, m, K, run_bytes_str hB (hS.slice hsrc) (hE.int hei) (hD.str hdst) (by rfl) hx (by simp) hb, hB, Ext.refl _ _, .pv _ _ (.str _)⟩
      · rename_i hei
        simp only [Option.some.injEq, Prod.mk.injEq] at h
        obtain ⟨rfl, rfl⟩ := h
        exact ⟨_, w, m, K, run_bytes_str (s := []) hB (hS.slice hsrc) (hE.int hei) (hD.str hdst) (by rfl) hx (by simp) rfl, hB, Ext.refl _ _, .pv _ _ (.str _)⟩
      · rename_i id ver off len hei
        split at h
        · rename_i xs hxs
          cases hb : bytesOf xs with
          | none => rw [hb] at h; simp at h
          | some s =>
            rw [hb] at h
            simp only [Option.map_some, Option.some.injEq, Prod.mk.injEq] at h
            obtain ⟨rfl, rfl⟩ := h
            exact ⟨_, w, m, K, run_bytes_str hB (hS.slice hsrc) (hE.int hei) (hD.str hdst) hxs hx (by simp) hb, hB, Ext.refl _ _, .pv _ _ (.str _)⟩
        · cases h
      · cases h
    · cases h
  · cases h

end Go.Sv
