/- What the executor says of the small operations is true of the model: parts, places, slices, numbers, comparisons. No program stands in this text. -/
import Derived.Test.YthkedonibhajbaaDoorSvH
import Derived.Laws.Slices
set_option linter.unusedVariables false
set_option linter.unusedSimpArgs false
namespace Go.Sv
open Go Go.RowKit

theorem part_sound {P : Program} {m : Mp} {K : KS} {w : World} {t : TypeId} {ti : TI} (hT : TIok P t ti) {cs : List AV} {vs : Array Value} (hr : cs.length = vs.size ∧ ∀ (j : Nat) a v, cs[j]? = some a → vs[j]? = some v → ARep m K a v)
    (h1 : ∀ (j : Nat) (v : Value), vs[j]? = some v → v.oneCell' = true) {off : Nat} {r : AV} (h : partA ti.td.isAgg ti.size off cs = some r) : ∃ v, (part t vs off).run P w = .ok v w ∧ ARep m K r v := by
  unfold partA at h
  unfold part
  simp only [Sem.run_bind, run_isAgg hT, Result.andThen_ok]
  cases ha : ti.td.isAgg with
  | true =>
    rw [ha] at h
    simp only [if_true] at h ⊢
    split at h
    · rename_i hle
      cases h
      refine ⟨.agg (vs.extract off (off + ti.size)), by simp [run_sizeOf' hT], mkAgg_rep ?_ (fun j p v hp hv => ?_) (fun j v hv => ?_)⟩
      · simp only [List.length_take, List.length_drop, Array.size_extract]; have := hr.1; omega
      · rw [List.getElem?_take] at hp
        split at hp
        · rename_i hj
          rw [List.getElem?_drop] at hp
          rw [Array.getElem?_extract] at hv
          split at hv
          · exact hr.2 _ p v hp hv
          · cases hv
        · cases hp
      · rw [Array.getElem?_extract] at hv
        split at hv
        · exact h1 _ v hv
        · cases hv
    · cases h
  | false =>
    rw [ha] at h
    simp only [Bool.false_eq_true, if_false] at h ⊢
    have hlt : off < vs.size := by rw [← hr.1]; exact (List.getElem?_eq_some_iff.1 h).1
    have hv : vs[off]? = some vs[off] := Array.getElem?_eq_getElem hlt
    exact ⟨vs[off], by simp [hv], hr.2 off r _ h hv⟩
theorem TIok.struct {P : Program} {t : TypeId} {ti : TI} (h : TIok P t ti) {fs : List (Nat × TypeId)} (hd : ti.td = .struct fs) : ∃ fields : Array Field, P.underlying t = some (.struct fields) ∧ fs = fields.toList.map fun f => (f.offset, f.type) := by
  obtain ⟨d, hu, e⟩ := h.under
  rw [hd] at e
  cases d <;> simp [TD.of] at e
  subst e
  exact ⟨_, hu, rfl⟩
theorem TIok.array {P : Program} {t el : TypeId} {n : Nat} {ti : TI} (h : TIok P t ti) (hd : ti.td = .array n el) : P.underlying t = some (.array n el) := by
  obtain ⟨d, hu, e⟩ := h.under
  rw [hd] at e
  cases d <;> simp [TD.of] at e
  obtain ⟨rfl, rfl⟩ := e
  exact hu
theorem pv_agg {m : Mp} {K : KS} {cs : List PV} {x : Value} (h : PRep K (.agg cs) x) : ∃ vs, x = .agg vs ∧ (cs.map AV.pv).length = vs.size ∧ (∀ (j : Nat) a v, (cs.map AV.pv)[j]? = some a → vs[j]? = some v → ARep m K a v) ∧ ∀ (j : Nat) (v : Value), vs[j]? = some v → v.oneCell' = true := by
  cases h with
  | agg _ vs hl hr h1 =>
    refine ⟨vs, rfl, by simpa using hl, fun j a v ha hv => ?_, h1⟩
    simp only [List.getElem?_map, Option.map_eq_some_iff] at ha
    obtain ⟨p, hp, rfl⟩ := ha
    exact .pv _ _ (hr j p v hp hv)
theorem field_sound {C : Ctx} (hC : TabOK C) {m : Mp} {K : KS} {w : World} {t : TypeId} {ti : TI} (hT : TIok C.P t ti) {a : AV} {x : Value} (hx : ARep m K a x) {f : Nat} {r : AV} (h : aField C.tab ti.td a f = some r) :
    ∃ v, (Instr.field t x f).run C.P w = .ok v w ∧ ARep m K r v := by
  unfold aField at h
  split at h
  · rename_i fs hd
    obtain ⟨fields, hu, rfl⟩ := hT.struct hd
    split at h
    · rename_i o ft hf
      split at h
      · rename_i fi hfi
        have hF := hC _ _ hfi
        have hfield : ∃ fd : Field, fields[f]? = some fd ∧ fd.offset = o ∧ fd.type = ft := by
          simp only [List.getElem?_map, Option.map_eq_some_iff, Array.getElem?_toList] at hf
          obtain ⟨fd, hfd, he⟩ := hf
          exact ⟨fd, hfd, by simpa using congrArg Prod.fst he, by simpa using congrArg Prod.snd he⟩
        obtain ⟨fd, hfd, rfl, rfl⟩ := hfield
        have core : ∀ (cs : List AV) (vs : Array Value), x = .agg vs → (cs.length = vs.size ∧ ∀ (j : Nat) a v, cs[j]? = some a → vs[j]? = some v → ARep m K a v) → (∀ (j : Nat) (v : Value), vs[j]? = some v → v.oneCell' = true) →
            ∀ r, partA fi.td.isAgg fi.size fd.offset cs = some r → ∃ v, (Instr.field t x f).run C.P w = .ok v w ∧ ARep m K r v := by
          intro cs vs e hr h1 r hp
          subst e
          obtain ⟨v, hv, hrep⟩ := part_sound (w := w) hF hr h1 hp
          exact ⟨v, by simp [Instr.field, run_underlying hu, hfd, asAgg, hv], hrep⟩
        split at h
        · split at h
          · rename_i cs
            cases hq : partP fi.td.isAgg fi.size fd.offset (.agg cs) with
            | none => rw [hq] at h; simp at h
            | some q =>
              rw [hq] at h
              simp only [Option.map_some, Option.some.injEq] at h
              subst h
              obtain ⟨vs, e, hl, hr, h1⟩ := pv_agg (m := m) hx.pv_inv
              exact core _ vs e ⟨hl, hr⟩ h1 _ (partP_partA hq)
          · cases h
        · rename_i cs
          cases hx with
          | agg _ vs hl hr h1 => exact core cs vs rfl ⟨hl, hr⟩ h1 r h
        · cases h
      · cases h
    · cases h
  · cases h
theorem fieldAddr_sound {C : Ctx} (hC : TabOK C) {m : Mp} {K : KS} {w : World} {t : TypeId} {ti : TI} (hT : TIok C.P t ti) {a : AV} {x : Value} (hx : ARep m K a x) {f : Nat} {r : AV} (h : aFieldAddr C.tab ti.td a f = some r) :
    ∃ v, (Instr.fieldAt t x f).run C.P w = .ok v w ∧ ARep m K r v := by
  unfold aFieldAddr at h
  split at h
  · rename_i fs hd
    obtain ⟨fields, hu, rfl⟩ := hT.struct hd
    split at h
    · rename_i o ft hf
      split at h
      · rename_i fi hfi
        have hF := hC _ _ hfi
        have hfield : ∃ fd : Field, fields[f]? = some fd ∧ fd.offset = o ∧ fd.type = ft := by
          simp only [List.getElem?_map, Option.map_eq_some_iff, Array.getElem?_toList] at hf
          obtain ⟨fd, hfd, he⟩ := hf
          exact ⟨fd, hfd, by simpa using congrArg Prod.fst he, by simpa using congrArg Prod.snd he⟩
        obtain ⟨fd, hfd, rfl, rfl⟩ := hfield
        split at h
        · cases h
        · rename_i hne
          have hrun : ∀ ad : Addr, (Instr.fieldAt t (.pointer (some ad)) f).run C.P w = .ok (.pointer (some (ad.add fd.offset))) w := by
            intro ad
            simp [Instr.fieldAt, run_underlying hu, hfd, Instr.sureAddr, fieldPlace, run_sizeOf' hF, hne]
          split at h
          · cases h
            cases hx with
            | ptr _ _ b cap es hm => exact ⟨_, hrun _, by rw [addr_add]; exact .ptr _ _ _ _ _ hm⟩
          · cases h
            cases hx with
            | ro _ _ b o2 vs hl hr hk => exact ⟨_, hrun _, by rw [addr_add, Nat.add_assoc]; exact .ro _ _ _ _ vs hl hr hk⟩
          · cases h
            cases hx with
            | eptr _ _ _ _ b cap es hm hi => exact ⟨_, hrun _, by rw [addr_add, Nat.add_assoc]; exact .eptr _ _ _ _ _ _ _ hm hi⟩
          · cases h
      · cases h
    · cases h
  · cases h
theorem extract_sound {C : Ctx} {m : Mp} {K : KS} {w : World} {vs : List AV} {x : Value} (hx : ARep m K (.tup vs) x) {i : Nat} {r : AV} (h : vs[i]? = some r) : ∃ v, (Instr.extract x i).run C.P w = .ok v w ∧ ARep m K r v := by
  cases hx with
  | tup _ us hl hr =>
    have hlt : i < us.size := by rw [← hl]; exact (List.getElem?_eq_some_iff.1 h).1
    have hv : us[i]? = some us[i] := Array.getElem?_eq_getElem hlt
    exact ⟨us[i], by simp [Instr.extract, hv], hr i r _ h hv⟩
theorem len_sound {C : Ctx} {m : Mp} {K : KS} {w : World} {t ty : TypeId} {ti : TI} (hT : TIok C.P t ti) {a : AV} {x : Value} (hx : ARep m K a x) {r : AV} (h : aLen ti.td a = some r) {ts : Array TypeId} {xs : Array Value} (hts : ts[0]? = some t) (hxs : xs[0]? = some x) :
    ∃ v, (Builtin.len_ ts ty xs).run C.P w = .ok v w ∧ ARep m K r v := by
  unfold aLen at h
  split at h
  · rename_i s
    split at h
    · rename_i htd
      cases h
      have hd : ti.td = .str := by
        cases hq : ti.td <;> simp [hq] at htd
        rfl
      cases hx.pv_inv
      exact ⟨_, by simp [Builtin.len_, hts, hxs, run_underlying (hT.str hd), goInt]; rfl, .pv _ _ (by simp [ByteArray.size]; exact .int _ _)⟩
    · cases h
  · rename_i xs
    split at h
    · rename_i htd
      cases h
      have hd : ∃ el, ti.td = .slice el := by
        cases hq : ti.td <;> simp [hq] at htd
        exact ⟨_, rfl⟩
      obtain ⟨el, hd⟩ := hd
      cases hx.pv_inv with
      | slNil a c => exact ⟨_, by simp [Builtin.len_, hts, hxs, run_underlying (hT.slice hd), goInt], .pv _ _ (.int _ _)⟩
      | sl _ es b o c vs hc he hl hr hk => exact ⟨_, by simp [Builtin.len_, hts, hxs, run_underlying (hT.slice hd), goInt], .pv _ _ (.int _ _)⟩
    · cases h
  · split at h
    · rename_i htd
      cases h
      have hd : ∃ el, ti.td = .slice el := by
        cases hq : ti.td <;> simp [hq] at htd
        exact ⟨_, rfl⟩
      obtain ⟨el, hd⟩ := hd
      cases hx
      exact ⟨_, by simp [Builtin.len_, hts, hxs, run_underlying (hT.slice hd), goInt], .pv _ _ (.int _ _)⟩
    · cases h
  · rename_i id ver off len
    split at h
    · rename_i htd
      cases h
      have hd : ∃ el, ti.td = .slice el := by
        cases hq : ti.td <;> simp [hq] at htd
        exact ⟨_, rfl⟩
      obtain ⟨el, hd⟩ := hd
      rcases hx.arr_inv with ⟨b, cap, es, c, a, rfl, _⟩ | ⟨_, _, rfl, rfl, _⟩
      · exact ⟨_, by simp [Builtin.len_, hts, hxs, run_underlying (hT.slice hd), goInt], .pv _ _ (.int _ _)⟩
      · exact ⟨_, by simp [Builtin.len_, hts, hxs, run_underlying (hT.slice hd), goInt], .pv _ _ (.int _ _)⟩
    · cases h
  · cases h

/-! ### Elements -/
theorem indexAddr_sound {C : Ctx} (hC : TabOK C) {m : Mp} {K : KS} {σ : Store} {w : World} (hB : Bears C m K σ w) {t : TypeId} {ti : TI} (hT : TIok C.P t ti) {a : AV} {x : Value} (hx : ARep m K a x) {k : IntKind} {n : Int} {r : AV} (h : aIndexAddr σ C.tab ti.td a n = some r) :
    ∃ v, (Instr.indexAt t x (.int k n)).run C.P w = .ok v w ∧ ARep m K r v := by
  unfold aIndexAddr at h
  split at h
  · rename_i el hd
    have hu := hT.slice hd
    split at h
    · cases h
    · rename_i ei hei
      have hE := hC _ _ hei
      have hrun : ∀ (ad : Addr) (len c : Nat), 0 ≤ n → n < len → (Instr.indexAt t (.slice (some ad) len c) (.int k n)).run C.P w = .ok (.pointer (some (ad.add (n.toNat * ei.size)))) w := by
        intro ad len c h0 h1
        simp [Instr.indexAt, asIntOf, run_underlying hu, run_sizeOf' hE, h0, h1]
      split at h
      · rename_i xs
        split at h
        · rename_i hc
          split at h
          · rename_i y hy
            split at h
            · rename_i hyl
              cases h
              have hlt : n.toNat < xs.length := (List.getElem?_eq_some_iff.1 hy).1
              cases hx.pv_inv with
              | slNil a c => simp at hlt
              | sl _ es b o c vs hcap he hl hr hk =>
                have hes : es = ei.size := by rw [← he y (List.mem_of_getElem? hy), hyl]
                subst hes
                refine ⟨_, hrun _ _ _ hc.1 hc.2, ?_⟩
                rw [addr_add]
                have hfl := flat_length he
                have hle : n.toNat * ei.size + ei.size ≤ xs.length * ei.size := by
                  have : (n.toNat + 1) * ei.size ≤ xs.length * ei.size := Nat.mul_le_mul_right _ hlt
                  rw [Nat.add_mul] at this; omega
                have key := ARep.ro (m := m) (K := K) y 0 b (o + n.toNat * ei.size) ((vs.drop (n.toNat * ei.size)).take ei.size) (by rw [hyl, List.length_take, List.length_drop]; omega)
                  (fun j q v hq hv => by
                    rw [List.getElem?_take] at hv
                    split at hv
                    · rename_i hj
                      rw [List.getElem?_drop] at hv
                      have := flat_get he hy j hj
                      rw [hq] at this
                      exact hr _ q v this hv
                    · cases hv) (fun j v hv => by
                    rw [List.getElem?_take] at hv
                    split at hv
                    · rw [List.getElem?_drop] at hv
                      have := hk _ v hv
                      rw [Nat.add_assoc]
                      exact this
                    · cases hv)
                simpa using key
            · cases h
          · cases h
        · cases h
      · rename_i id ver off len
        split at h
        · rename_i es xs fz ho
          split at h
          · rename_i hc
            obtain ⟨h0, h1, rfl, rfl⟩ := hc
            cases h
            rcases hx.arr_inv with ⟨b, cap, es', c, a, rfl, hm, hc, hl, hv, ha⟩ | ⟨hv0, hoff, hlen, rfl, hm⟩
            · obtain ⟨rfl, _⟩ := hB.arr_open ho hm
              have hpos : 0 < c := by omega
              have ha' : a = some ⟨b, off * ei.size, none⟩ := by
                rcases ha with hz | hz
                · omega
                · exact hz
              subst ha'
              refine ⟨_, hrun _ _ _ h0 h1, ?_⟩
              rw [addr_add]
              have e : off * ei.size + n.toNat * ei.size = (off + n.toNat) * ei.size + 0 := by rw [Nat.add_mul]; rfl
              rw [e]
              exact .eptr _ _ _ _ _ _ _ hm (by omega)
            · omega
          · cases h
        · cases h
      · cases h
  · rename_i len el hd
    have hu := hT.array hd
    split at h
    · cases h
    · rename_i ei hei
      have hE := hC _ _ hei
      split at h
      · rename_i hc
        have hrun : ∀ (ad : Addr), (Instr.indexAt t (.pointer (some ad)) (.int k n)).run C.P w = .ok (.pointer (some (ad.add (n.toNat * ei.size)))) w := by
          intro ad
          simp [Instr.indexAt, asIntOf, run_underlying hu, run_sizeOf' hE, hc.1, hc.2, Instr.sureAddr]
        split at h
        · cases h
          cases hx with
          | ptr _ _ b cap es hm => exact ⟨_, hrun _, by rw [addr_add]; exact .ptr _ _ _ _ _ hm⟩
        · cases h
          cases hx with
          | ro _ _ b o2 vs hl hr hk => exact ⟨_, hrun _, by rw [addr_add, Nat.add_assoc]; exact .ro _ _ _ _ vs hl hr hk⟩
        · cases h
          cases hx with
          | eptr _ _ _ _ b cap es hm hi => exact ⟨_, hrun _, by rw [addr_add, Nat.add_assoc]; exact .eptr _ _ _ _ _ _ _ hm hi⟩
        · cases h
      · cases h
  · cases h
theorem index_sound {C : Ctx} (hC : TabOK C) {m : Mp} {K : KS} {w : World} {t : TypeId} {ti : TI} (hT : TIok C.P t ti) {a : AV} {x : Value} (hx : ARep m K a x) {k : IntKind} {n : Int} {r : AV} (h : aIndex C.tab ti.td a n = some r) :
    ∃ v, (Instr.index t x (.int k n)).run C.P w = .ok v w ∧ ARep m K r v := by
  unfold aIndex at h
  split at h
  · rename_i s hd
    split at h
    · rename_i hc
      split at h
      · rename_i c hcs
        cases h
        cases hx.pv_inv
        refine ⟨.int .u8 c.toNat, ?_, .pv _ _ (.int _ _)⟩
        have hlt : n.toNat < s.length := (List.getElem?_eq_some_iff.1 hcs).1
        have e : (⟨s.toArray⟩ : ByteArray)[n.toNat]? = some c := by
          rw [getElem?_pos (⟨s.toArray⟩ : ByteArray) n.toNat (by simpa [ByteArray.size] using hlt)]
          congr 1
          have := (List.getElem?_eq_some_iff.1 hcs).2
          simpa [ByteArray.getElem_eq_getElem_data] using this
        simp [Instr.index, asIntOf, run_underlying (hT.str hd), hc.1, e]
      · cases h
    · cases h
  · rename_i len el _ hd
    have hu := hT.array hd
    split at h
    · cases h
    · rename_i ei hei
      have hE := hC _ _ hei
      split at h
      · rename_i hc
        have core : ∀ (cs : List AV) (vs : Array Value), x = .agg vs → (cs.length = vs.size ∧ ∀ (j : Nat) a v, cs[j]? = some a → vs[j]? = some v → ARep m K a v) → (∀ (j : Nat) (v : Value), vs[j]? = some v → v.oneCell' = true) →
            ∀ r, partA ei.td.isAgg ei.size (n.toNat * ei.size) cs = some r → ∃ v, (Instr.index t x (.int k n)).run C.P w = .ok v w ∧ ARep m K r v := by
          intro cs vs e hr h1 r hp
          subst e
          obtain ⟨v, hv, hrep⟩ := part_sound (w := w) hE hr h1 hp
          exact ⟨v, by simp [Instr.index, asIntOf, run_underlying hu, run_sizeOf' hE, hc.1, hc.2, hv], hrep⟩
        split at h
        · split at h
          · rename_i cs
            cases hq : partP ei.td.isAgg ei.size (n.toNat * ei.size) (.agg cs) with
            | none => rw [hq] at h; simp at h
            | some q =>
              rw [hq] at h
              simp only [Option.map_some, Option.some.injEq] at h
              subst h
              obtain ⟨vs, e, hl, hr, h1⟩ := pv_agg (m := m) hx.pv_inv
              exact core _ vs e ⟨hl, hr⟩ h1 _ (partP_partA hq)
          · cases h
        · rename_i cs
          cases hx with
          | agg _ vs hl hr h1 => exact core cs vs rfl ⟨hl, hr⟩ h1 r h
        · cases h
      · cases h
  · cases h

/-! ### Slices of slices -/
theorem asI_rep {m : Mp} {K : KS} {a : AV} {x : Value} {i : Int} (h : ARep m K a x) (hi : asI a = some i) : ∃ k, x = .int k i := by
  unfold asI at hi
  split at hi
  · cases hi
    cases h.pv_inv
    exact ⟨_, rfl⟩
  · cases hi
theorem run_bounds {P : Program} {w : World} (b : Bool) (len cap : Nat) (low high : Option Value) (l h : Int) (hl : (low = none ∧ l = 0) ∨ ∃ k, low = some (.int k l)) (hh : (high = none ∧ h = len) ∨ ∃ k, high = some (.int k h))
    (h0 : 0 ≤ l) (h1 : l ≤ h) (h2 : h ≤ len) (h3 : len ≤ cap) : (Instr.sliceBounds b len cap low high none).run P w = .ok (l.toNat, h.toNat, cap) w := by
  have hh2 : h ≤ (cap : Int) := by omega
  have hl2 : l ≤ (h.toNat : Int) := by omega
  have h02 : 0 ≤ h := by omega
  have hl3 : (l.toNat : Int) = l := by omega
  rcases hl with ⟨rfl, rfl⟩ | ⟨k, rfl⟩ <;> rcases hh with ⟨rfl, rfl⟩ | ⟨k', rfl⟩
  · simp [Instr.sliceBounds]
  · simp [Instr.sliceBounds, run_sliceBound w k' h cap _ h02 hh2]
  · have : l ≤ (len : Int) := by omega
    simp [Instr.sliceBounds, run_sliceBound w k l len _ h0 this]
  · simp [Instr.sliceBounds, run_sliceBound w k' h cap _ h02 hh2, run_sliceBound w k l h.toNat _ h0 hl2]
theorem bytes_extract (s : List UInt8) (l h : Nat) : ((⟨s.toArray⟩ : ByteArray).extract l h) = ⟨((s.take h).drop l).toArray⟩ := by
  have : ((⟨s.toArray⟩ : ByteArray).extract l h).data = ((s.take h).drop l).toArray := by
    rw [ByteArray.data_extract]
    simp [List.drop_take]
  cases hx : (⟨s.toArray⟩ : ByteArray).extract l h with
  | mk d => rw [hx] at this; simp only at this; rw [this]
theorem sl_slice {K : KS} {xs : List PV} {x : Value} (hx : PRep K (.sl xs) x) {n : Nat} (hn : sized n xs = true) (l h : Nat) (h1 : l ≤ h) (h2 : h ≤ xs.length) :
    ∃ a c, x = .slice a xs.length c ∧ xs.length ≤ c ∧ PRep K (.sl ((xs.take h).drop l)) (.slice (if c = l then a else a.map (·.add (l * n))) (h - l) (c - l)) := by
  have hes := all_len hn
  have hlen : ((xs.take h).drop l).length = h - l := by rw [List.length_drop, List.length_take]; omega
  cases hx with
  | slNil a c =>
    refine ⟨a, c, rfl, Nat.zero_le _, ?_⟩
    have hl0 : l = 0 := by simp at h2; omega
    have hh0 : h = 0 := by simpa using h2
    subst hl0; subst hh0
    exact .slNil _ _
  | sl _ es b o c vs hc he hl hr hk =>
    refine ⟨_, c, rfl, hc, ?_⟩
    by_cases e : h - l = 0
    · have : (xs.take h).drop l = [] := List.eq_nil_of_length_eq_zero (by omega)
      rw [this, e]
      exact .slNil _ _
    · have hcl : c ≠ l := by omega
      have hne : xs ≠ [] := by intro e2; subst e2; simp at h2; omega
      have hees : es = n := by
        cases xs with
        | nil => exact absurd rfl hne
        | cons y r => rw [← he y (by simp), hes y (by simp)]
      subst hees
      rw [if_neg hcl]
      simp only [Option.map_some, addr_add]
      rw [← hlen]
      have hfl := flat_length he
      have hmul : l * es ≤ h * es := Nat.mul_le_mul_right _ h1
      have hmul2 : h * es ≤ xs.length * es := Nat.mul_le_mul_right _ h2
      refine .sl _ es b (o + l * es) (c - l) ((vs.take (h * es)).drop (l * es)) (by omega) (fun y hy => he y (List.mem_of_mem_take (List.mem_of_mem_drop hy))) ?_ (fun j p v hp hv => ?_) (fun j v hv => ?_)
      · rw [flat_length (es := es) (fun y hy => he y (List.mem_of_mem_take (List.mem_of_mem_drop hy))), hlen, List.length_drop, List.length_take, Nat.sub_mul]; omega
      · rw [flat_drop (fun y hy => he y (List.mem_of_mem_take hy)), flat_take he] at hp
        rw [List.getElem?_drop, List.getElem?_take] at hp hv
        split at hp
        · rename_i hj
          rw [if_pos hj] at hv
          exact hr _ p v hp hv
        · cases hp
      · rw [List.getElem?_drop, List.getElem?_take] at hv
        split at hv
        · rw [Nat.add_assoc]
          exact hk _ v hv
        · cases hv
theorem bnd_rep {m : Mp} {K : KS} {lo : Option AV} {lov : Option Value} {d i : Int} (h1 : ∀ u, lo = some u → ∃ v, lov = some v ∧ ARep m K u v) (h0 : lo = none → lov = none) (h : bndA d lo = some i) : (lov = none ∧ i = d) ∨ ∃ k, lov = some (.int k i) := by
  unfold bndA at h
  split at h
  · cases h
    exact .inl ⟨h0 rfl, rfl⟩
  · obtain ⟨v, hv, hr⟩ := h1 _ rfl
    obtain ⟨k, rfl⟩ := asI_rep hr h
    exact .inr ⟨k, hv⟩
theorem slice_sound {C : Ctx} (hC : TabOK C) {m : Mp} {K : KS} {σ : Store} {w : World} (hB : Bears C m K σ w) {t : TypeId} {ti : TI} (hT : TIok C.P t ti) {a : AV} {x : Value} (hx : ARep m K a x) {lo hi : Option AV} {lov hiv : Option Value}
    (hlo : ∀ u, lo = some u → ∃ v, lov = some v ∧ ARep m K u v) (hlo0 : lo = none → lov = none) (hhi : ∀ u, hi = some u → ∃ v, hiv = some v ∧ ARep m K u v) (hhi0 : hi = none → hiv = none) {r : AV} (h : aSlice σ C.tab ti.td a lo hi = some r) :
    ∃ v, (Instr.sliceAt t x lov hiv none).run C.P w = .ok v w ∧ ARep m K r v := by
  unfold aSlice at h
  split at h
  · cases h
  · rename_i n hn
    split at h
    · rename_i l hh hl hhh
      have q1 := bnd_rep hlo hlo0 hl
      have q2 := bnd_rep hhi hhi0 hhh
      split at h
      · rename_i hc
        obtain ⟨h0, h1, h2⟩ := hc
        split at h
        · rename_i s hd
          cases h
          simp only [lenA, Option.some.injEq] at hn
          subst hn
          cases hx.pv_inv
          have hb := run_bounds (P := C.P) (w := w) false s.length s.length lov hiv l hh q1 q2 h0 h1 h2 (Nat.le_refl _)
          refine ⟨.string (((⟨s.toArray⟩ : ByteArray)).extract l.toNat hh.toNat), ?_, ?_⟩
          · have hsz : ByteArray.size ⟨s.toArray⟩ = s.length := by simp [ByteArray.size]
            simp [Instr.sliceAt, Instr.slice, run_underlying (hT.str hd), hsz, hb]
          · rw [bytes_extract]
            exact .pv _ _ (.str _)
        · rename_i el xs hd
          split at h
          · rename_i ei hei
            split at h
            · rename_i hs
              cases h
              simp only [lenA, Option.some.injEq] at hn
              subst hn
              obtain ⟨ad, c, rfl, hlc, hrep⟩ := sl_slice hx.pv_inv hs l.toNat hh.toNat (by omega) (by omega)
              have hb := run_bounds (P := C.P) (w := w) true xs.length c lov hiv l hh q1 q2 h0 h1 h2 hlc
              refine ⟨_, ?_, .pv _ _ hrep⟩
              simp [Instr.sliceAt, Instr.slice, run_underlying (hT.slice hd), hb, run_sizeOf' (hC _ _ hei)]
            · cases h
          · cases h
        · rename_i el hd
          split at h
          · rename_i hs
            cases h
            obtain ⟨ei, hei⟩ := Option.isSome_iff_exists.1 hs
            simp only [lenA, Option.some.injEq] at hn
            subst hn
            cases hx
            have hb := run_bounds (P := C.P) (w := w) true 0 0 lov hiv l hh q1 q2 h0 h1 h2 (Nat.le_refl _)
            have e1 : l.toNat = 0 := by omega
            have e2 : hh.toNat = 0 := by omega
            rw [e1, e2] at hb
            refine ⟨_, ?_, .nilsl⟩
            simp [Instr.sliceAt, Instr.slice, run_underlying (hT.slice hd), hb, run_sizeOf' (hC _ _ hei)]
          · cases h
        · rename_i el id ver off len hd
          split at h
          · rename_i ei es xs fz hei ho
            split at h
            · rename_i hc2
              obtain ⟨rfl, rfl⟩ := hc2
              cases h
              simp only [lenA, Option.some.injEq] at hn
              subst hn
              rcases hx.arr_inv with ⟨b, cap, es', c, ad, rfl, hm, hc, hl, hv, ha⟩ | ⟨hv0, hoff, hlen, rfl, hm⟩
              · obtain ⟨rfl, _⟩ := hB.arr_open ho hm
                have hb := run_bounds (P := C.P) (w := w) true len c lov hiv l hh q1 q2 h0 h1 h2 (by omega)
                refine ⟨_, by simp [Instr.sliceAt, Instr.slice, run_underlying (hT.slice hd), hb, run_sizeOf' (hC _ _ hei)]; rfl, ?_⟩
                have e : (hh - l).toNat = hh.toNat - l.toNat := by omega
                rw [e]
                refine .arr _ _ _ _ b cap _ _ _ hm (by omega) (by omega) hv ?_
                by_cases hcl : c = l.toNat
                · left; omega
                · right
                  rcases ha with hz | rfl
                  · omega
                  · rw [if_neg hcl]
                    simp [addr_add, Nat.add_mul]
              · have hb := run_bounds (P := C.P) (w := w) true len 0 lov hiv l hh q1 q2 h0 h1 h2 (by omega)
                have e1 : l.toNat = 0 := by omega
                have e2 : hh.toNat = 0 := by omega
                rw [e1, e2] at hb
                have e3 : (hh - l).toNat = 0 := by omega
                refine ⟨.slice none 0 0, by subst hlen; simp [Instr.sliceAt, Instr.slice, run_underlying (hT.slice hd), hb, run_sizeOf' (hC _ _ hei)], ?_⟩
                rw [e1, e3, hoff, hv0]
                exact .arrNil _ hm
            · cases h
          · cases h
        · cases h
      · cases h
    · cases h

end Go.Sv
