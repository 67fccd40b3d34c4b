/- Slices: copy, make, literals, conversions, a store into an element. No program stands in this text. -/
import Derived.Test.YthkedonibhajbaaDoorSvE
set_option linter.unusedVariables false
set_option linter.unusedSimpArgs false
namespace Go.Sv
open Go Go.RowKit

theorem elems_splice {xs ys : List PV} {off n : Nat} (h : off + n ≤ xs.length) (hn : n ≤ ys.length) {es : Nat} (hx : ∀ x ∈ xs, x.cells.length = es) (hy : ∀ y ∈ ys, y.cells.length = es) :
    (splice xs off (ys.take n)).length = xs.length ∧ (∀ x ∈ splice xs off (ys.take n), x.cells.length = es) ∧
      flat (splice xs off (ys.take n)) = splice (flat xs) (off * es) (flat (ys.take n)) := by
  have hl : (ys.take n).length = n := by rw [List.length_take]; omega
  have hyt : ∀ y ∈ ys.take n, y.cells.length = es := fun y h => hy y (List.mem_of_mem_take h)
  refine ⟨splice_length _ _ _ (by omega), fun x hx' => ?_, ?_⟩
  · unfold splice at hx'
    rcases List.mem_append.1 hx' with h1 | h1
    · exact hx x (List.mem_of_mem_take h1)
    · rcases List.mem_append.1 h1 with h2 | h2
      · exact hyt x h2
      · exact hx x (List.mem_of_mem_drop h2)
  · unfold splice
    rw [flat_append, flat_append, flat_take hx, flat_drop hx, flat_length hyt]
    rw [hl, Nat.add_mul]
theorem copy_sound {C : Ctx} {m : Mp} {K : KS} {σ : Store} {w : World} (hB : Bears C m K σ w) {t t2 ty el : TypeId} {ti ei : TI} (hT : TIok C.P t ti) (hd : ti.td = .slice el) (hE : TIok C.P el ei)
    {d s : AV} {dv sv : Value} (hdr : ARep m K d dv) (hs : ARep m K s sv) {r : AV} {σ' : Store} (h : aCopy σ ei d s = some (r, σ')) :
    ∃ v w' m' K', (Builtin.copy_ #[t, t2] ty #[dv, sv]).run C.P w = .ok v w' ∧ Bears C m' K' σ' w' ∧ Ext m K m' K' ∧ ARep m' K' r v := by
  obtain ⟨i, hi, hz, his, hib⟩ := hE.info
  have hu := hT.slice hd
  unfold aCopy at h
  cases hes : elems σ s with
  | none => simp [hes] at h
  | some ys =>
    simp only [hes] at h
    cases d with
    | arr id ver off len =>
      simp only at h
      split at h
      · rename_i es xs ho
        split at h
        · rename_i hc
          obtain ⟨hver, hle, rfl, hall⟩ := hc
          subst hver
          simp only [Option.some.injEq, Prod.mk.injEq] at h
          obtain ⟨rfl, rfl⟩ := h
          have hys := all_len hall
          obtain ⟨hlen, vs, hfc, hvl, hvr, hv1⟩ := run_firstCells hB hes hs hys (min ys.length len) (Nat.min_le_left _ _)
          have hmin : Nat.min ys.length len = min ys.length len := rfl
          rcases hdr.arr_inv with ⟨b, cap, es, c, a, rfl, hm, hc, hl, hv, ha⟩ | ⟨h0, h1, h2, rfl, hm⟩
          · obtain ⟨rfl, arr, ty', fr, hh, hcap, hmax, hasz, hxs, hcr, hfr, hkk⟩ := hB.arr_open ho hm
            have hmul : off * ei.size + (min ys.length len) * ei.size ≤ xs.length * ei.size := by
              rw [← Nat.add_mul]; exact Nat.mul_le_mul_right _ (by omega)
            have hmul2 : xs.length * ei.size ≤ cap * ei.size := Nat.mul_le_mul_right _ hcap
            obtain ⟨w', cur', hst, hsb, hb', hsz', hk⟩ := run_storeCells C.P b (off * ei.size) ty' fr vs 0 arr w hh (by rw [hvl, hasz]; omega) (fun j h1 h2 => hfr j (by simp) (by rw [hvl] at h2; omega)) hv1
            have hcur : ∀ k, cur'[k]? = if off * ei.size ≤ k ∧ k < off * ei.size + (min ys.length len) * ei.size then vs[k - off * ei.size]? else arr[k]? := by
              intro k
              have := hk k
              rw [hvl] at this
              simpa using this
            obtain ⟨e1, e2, e3⟩ := elems_splice (n := min ys.length len) (off := off) (by omega) (Nat.min_le_left _ _) hxs hys
            have hfx := flat_length hxs
            have hft : (flat (ys.take (min ys.length len))).length = (min ys.length len) * ei.size := by
              rw [flat_length (fun y h => hys y (List.mem_of_mem_take h)), List.length_take]
              congr 1; omega
            obtain ⟨m', h1, h2, h3⟩ := hB.arr_change ho hm hh hsb hb' hsz' (splice xs off (ys.take (min ys.length len))) (by omega) (by omega) e2 (fun j p v hp hv => by
              rw [e3, splice_get _ _ _ (by omega), hft] at hp
              rw [hcur] at hv
              by_cases hj : off * ei.size ≤ j ∧ j < off * ei.size + (min ys.length len) * ei.size
              · rw [if_pos hj] at hp hv
                exact hvr _ p v hp hv
              · rw [if_neg hj] at hp hv
                exact hcr j p v hp hv) (fun j v hK => by
              have := (hkk j v hK).1
              cases this)
            by_cases hlen0 : len = 0
            · -- nothing is copied
              subst hlen0
              have hvs : vs = [] := List.eq_nil_of_length_eq_zero (by rw [hvl]; simp)
              subst hvs
              have hw : w' = w := by simp [storeCells] at hst; exact hst.symm
              subst hw
              refine ⟨_, w', m', K, ?_, h1, h2, .pv _ _ (.int _ _)⟩
              cases a with
              | none => simp [Builtin.copy_, run_underlying hu, sizeOf, typeInfo, hi, hlen, his, Nat.min_zero] at hfc ⊢; simp [hfc]; rfl
              | some ad => simp [Builtin.copy_, run_underlying hu, sizeOf, typeInfo, hi, hlen, his, storeCells] at hfc ⊢; simp [hfc, storeCells]; rfl
            · have ha' : a = some ⟨b, off * ei.size, none⟩ := by
                rcases ha with h0 | h0
                · omega
                · exact h0
              subst ha'
              refine ⟨_, w', m', K, ?_, h1, h2, .pv _ _ (.int _ _)⟩
              simp [Builtin.copy_, run_underlying hu, sizeOf, typeInfo, hi, hlen, his, hmin, hfc, hst]
              rfl
          · have hnil : xs = [] := List.eq_nil_of_length_eq_zero h0
            subst hnil
            subst h2
            subst h1
            have hvs : vs = [] := List.eq_nil_of_length_eq_zero (by rw [hvl]; simp)
            subst hvs
            refine ⟨_, w, m, K, ?_, ?_, Ext.refl _ _, .pv _ _ (.int _ _)⟩
            · simp [Builtin.copy_, run_underlying hu, sizeOf, typeInfo, hi, hlen, his] at hfc ⊢; simp [hfc]; rfl
            · simpa [splice, set_self ho] using hB
        · cases h
      · cases h
    | _ => simp at h

theorem PRep.cells {K : KS} {p : PV} {v : Value} (h : PRep K p v) : p.cells.length = v.cells.size ∧ ∀ (j : Nat) q u, p.cells[j]? = some q → v.cells[j]? = some u → PRep K q u ∧ u.oneCell' = true := by
  have single : ∀ {p : PV} {v : Value}, PRep K p v → p.cells = [p] → v.oneCell' = true → p.cells.length = v.cells.size ∧ ∀ (j : Nat) q u, p.cells[j]? = some q → v.cells[j]? = some u → PRep K q u ∧ u.oneCell' = true := by
    intro p v h e h1
    rw [e, cells_one h1]
    refine ⟨rfl, fun j q u hq hu => ?_⟩
    cases j with
    | zero => simp at hq hu; subst hq; subst hu; exact ⟨h, h1⟩
    | succ j => simp at hq
  cases h with
  | agg cs vs hl hr h1 => exact ⟨hl, fun j q u hq hu => ⟨hr j q u hq hu, h1 j u hu⟩⟩
  | int k n => exact single (.int k n) rfl rfl
  | bool b => exact single (.bool b) rfl rfl
  | str s => exact single (.str s) rfl rfl
  | raw v hv => exact single (.raw v hv) rfl hv
  | slNil a c => exact single (.slNil a c) rfl rfl
  | sl xs es b o c vs hc he hl hr hk => exact single (.sl xs es b o c vs hc he hl hr hk) rfl rfl
  | iface t p v hp => exact single (.iface t p v hp) rfl rfl
theorem makeSlice_sound {C : Ctx} {m : Mp} {K : KS} {σ : Store} {w : World} (hB : Bears C m K σ w) {t el : TypeId} {ti ei : TI} (hT : TIok C.P t ti) (hd : ti.td = .slice el) (hE : TIok C.P el ei)
    {n c : Int} {kl kc : IntKind} {r : AV} {σ' : Store} (h : aMakeSlice σ ei n c = some (r, σ')) :
    ∃ v w' m' K', (Instr.makeSlice t (.int kl n) (.int kc c)).run C.P w = .ok v w' ∧ Bears C m' K' σ' w' ∧ Ext m K m' K' ∧ ARep m' K' r v := by
  obtain ⟨i, hi, hz, his, hib⟩ := hE.info
  have hu := hT.slice hd
  have hz0 := hE.zero
  unfold aMakeSlice at h
  split at h
  · rename_i z hzv
    split at h
    · rename_i hc
      obtain ⟨h0, hnc, hroom, hzl⟩ := hc
      simp only [Option.some.injEq, Prod.mk.injEq] at h
      obtain ⟨rfl, rfl⟩ := h
      have hzr : PRep K z ei.zero := by
        have := ofValue_rep m K ei.zero
        rw [hzv] at this
        exact this.pv_inv
      have hcn : ((c.toNat : Nat) : Int) = c := Int.toNat_of_nonneg (by omega)
      have hb : (i.bytes : Int) * c ≤ 281474976710656 := by
        have := hroom.2
        rw [← hib] at this
        rw [← hcn, ← Int.natCast_mul, Nat.mul_comm]
        omega
      have hrun := run_make (P := C.P) w t el i ei.zero hu hi hz kl kc n c h0 hnc hb (by have := hroom.1; omega)
      have hes : ∀ x ∈ List.replicate n.toNat z, x.cells.length = ei.size := fun x hx => by rw [(List.mem_replicate.1 hx).2]; exact hzl
      have hsz : (madeCells ei.zero.cells (c.toNat * i.size)).size = c.toNat * ei.size := by rw [size_madeCells, his]
      obtain ⟨m', h1, h2, h3⟩ := hB.alloc_arr el ei.size c.toNat (List.replicate n.toNat z) _ (0, 0) hsz (by simp; omega) (Nat.le_trans hroom.1 (by decide)) hes (fun j p v hp hv => by
        have hlt : j < n.toNat * ei.size := by
          have := (List.getElem?_eq_some_iff.1 hp).1
          rw [flat_length hes, List.length_replicate] at this
          exact this
        have hpos : 0 < ei.size := Nat.pos_of_ne_zero (fun e => by rw [e] at hlt; omega)
        have hdiv : j / ei.size < n.toNat := (Nat.div_lt_iff_lt_mul hpos).2 hlt
        have hmod : j % ei.size < ei.size := Nat.mod_lt _ hpos
        have hj : j / ei.size * ei.size + j % ei.size = j := by rw [Nat.mul_comm]; exact Nat.div_add_mod _ _
        have hg := flat_get hes (i := j / ei.size) (x := z) (by simp [hdiv]) (j % ei.size) hmod
        rw [hj] at hg
        rw [hg] at hp
        have hv' : v = ei.zero.cells[j % ei.size]! := by
          unfold madeCells at hv
          simp only [Array.getElem?_map, Option.map_eq_some_iff] at hv
          obtain ⟨k, hk, rfl⟩ := hv
          have : k = j := by
            have h2 := Array.getElem?_eq_some_iff.1 hk
            obtain ⟨_, h3⟩ := h2
            simpa using h3.symm
          rw [this, hz0.1]
        have hlt2 : j % ei.size < ei.zero.cells.size := by rw [hz0.1]; exact hmod
        have hv2 : ei.zero.cells[j % ei.size]? = some v := by
          rw [hv', Array.getElem?_eq_getElem hlt2, getElem!_pos ei.zero.cells _ hlt2]
        exact hzr.cells.2 _ p v hp hv2) (fun j _ => by simp)
      rw [List.length_replicate] at h3
      exact ⟨_, _, m', K, hrun, h1, h2, h3⟩
    · cases h
  · cases h

end Go.Sv
