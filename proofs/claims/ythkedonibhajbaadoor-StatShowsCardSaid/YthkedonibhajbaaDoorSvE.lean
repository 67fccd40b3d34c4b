/- Slices: what they read as; append, copy, make over stores. No program stands in this text. -/
import Derived.Test.YthkedonibhajbaaDoorSvD
import Derived.Laws.AppendOwn
import Derived.Laws.MakeOwn
import Derived.Laws.IdiomStrings
import Derived.Great.BuildSlice
set_option linter.unusedVariables false
set_option linter.unusedSimpArgs false
namespace Go.Sv
open Go Go.RowKit

theorem flat_length {xs : List PV} {es : Nat} (he : ∀ x ∈ xs, x.cells.length = es) : (flat xs).length = xs.length * es := by
  induction xs with
  | nil => simp [flat]
  | cons x r ih =>
    have := ih (fun y hy => he y (List.mem_cons_of_mem _ hy))
    simp only [flat, List.flatMap_cons, List.length_append, List.length_cons] at *
    rw [this, he x (by simp), Nat.add_mul]; omega
theorem flat_append (xs ys : List PV) : flat (xs ++ ys) = flat xs ++ flat ys := by simp [flat]
theorem flat_get {xs : List PV} {es : Nat} (he : ∀ x ∈ xs, x.cells.length = es) {i : Nat} {x : PV} (hi : xs[i]? = some x) (j : Nat) (hj : j < es) : (flat xs)[i * es + j]? = x.cells[j]? := by
  induction xs generalizing i with
  | nil => simp at hi
  | cons y r ih =>
    have hy := he y (by simp)
    simp only [flat, List.flatMap_cons]
    cases i with
    | zero =>
      simp at hi; subst hi
      rw [Nat.zero_mul, Nat.zero_add, List.getElem?_append_left (by omega)]
    | succ i =>
      rw [List.getElem?_append_right (by rw [hy, Nat.add_mul]; omega), hy]
      have := ih (fun z hz => he z (List.mem_cons_of_mem _ hz)) (by simpa using hi)
      simp only [flat] at this
      rw [show (i + 1) * es + j - es = i * es + j by rw [Nat.add_mul]; omega]
      exact this
theorem flat_take {xs : List PV} {es : Nat} (he : ∀ x ∈ xs, x.cells.length = es) (n : Nat) : flat (xs.take n) = (flat xs).take (n * es) := by
  induction xs generalizing n with
  | nil => simp [flat]
  | cons y r ih =>
    have hy := he y (by simp)
    cases n with
    | zero => simp [flat]
    | succ n =>
      have := ih (fun z hz => he z (List.mem_cons_of_mem _ hz)) n
      simp only [flat, List.take_succ_cons, List.flatMap_cons] at *
      rw [this, List.take_append, hy]
      rw [List.take_of_length_le (l := y.cells) (by rw [hy, Nat.add_mul]; omega)]
      rw [show (n + 1) * es - es = n * es by rw [Nat.add_mul]; omega]
theorem flat_drop {xs : List PV} {es : Nat} (he : ∀ x ∈ xs, x.cells.length = es) (n : Nat) : flat (xs.drop n) = (flat xs).drop (n * es) := by
  induction xs generalizing n with
  | nil => simp [flat]
  | cons y r ih =>
    have hy := he y (by simp)
    cases n with
    | zero => simp [flat]
    | succ n =>
      have := ih (fun z hz => he z (List.mem_cons_of_mem _ hz)) n
      simp only [flat, List.drop_succ_cons, List.flatMap_cons] at *
      rw [this, List.drop_append, hy]
      rw [List.drop_of_length_le (l := y.cells) (by rw [hy, Nat.add_mul]; omega)]
      rw [show (n + 1) * es - es = n * es by rw [Nat.add_mul]; omega]
      simp
theorem all_len {ys : List PV} {es : Nat} (h : sized es ys = true) : ∀ y ∈ ys, y.cells.length = es := by
  intro y hy
  unfold sized at h
  rw [List.all_eq_true] at h
  simpa using h y hy

theorem ARep.arr_inv {m : Mp} {K : KS} {id ver off len : Nat} {v : Value} (h : ARep m K (.arr id ver off len) v) :
    (∃ b cap es c a, v = .slice a len c ∧ m id ver = some (.at b cap es) ∧ c + off = cap ∧ off + len ≤ ver ∧ ver ≤ cap ∧ (c = 0 ∨ a = some ⟨b, off * es, none⟩)) ∨
      (ver = 0 ∧ off = 0 ∧ len = 0 ∧ v = .slice none 0 0 ∧ m id 0 = some .nil) := by
  cases h with
  | arr _ _ _ _ b cap es c a hm hc hl hv ha => exact .inl ⟨b, cap, es, c, a, rfl, hm, hc, hl, hv, ha⟩
  | arrNil _ hm => exact .inr ⟨rfl, rfl, rfl, rfl, hm⟩
/-- An array's object, opened. -/
theorem Bears.arr_open {C : Ctx} {m K σ w} (hB : Bears C m K σ w) {id es : Nat} {xs : List PV} {fz : Bool} (ho : σ[id]? = some (.arr es xs fz)) {b cap es' : Nat} (hm : m id xs.length = some (.at b cap es')) :
    es' = es ∧ ∃ arr ty fr, w.heap[b]? = some (.cells arr ty fr) ∧ xs.length ≤ cap ∧ cap ≤ maxLen ∧ arr.size = cap * es ∧ (∀ x ∈ xs, x.cells.length = es) ∧
      (∀ (j : Nat) p v, (flat xs)[j]? = some p → arr[j]? = some v → PRep K p v ∧ v.oneCell' = true) ∧
      (∀ j, (if fz then xs.length * es else 0) ≤ j → j < cap * es → ¬ (fr.1 ≤ j ∧ j < fr.2)) ∧ (∀ (j : Nat) (v : Value), K b j v → fz = true ∧ j < xs.length * es) := by
  rcases (hB.obj id _ ho).2 with ⟨rfl, hn⟩ | ⟨b', cap', arr, ty, fr, hm', rest⟩
  · simp at hm; rw [hn] at hm; cases hm
  · rw [hm] at hm'; cases hm'
    exact ⟨rfl, arr, ty, fr, rest⟩
/-- The cells of a slice's elements: from the place on that the value names. -/
theorem elems_at {C : Ctx} {m K σ w} (hB : Bears C m K σ w) {a : AV} {x : Value} {ys : List PV} (he : elems σ a = some ys) (hr : ARep m K a x) {es : Nat} (hsz : ∀ y ∈ ys, y.cells.length = es) (hstr : ∀ s, a ≠ .pv (.str s)) :
    ∃ ad c, x = .slice ad ys.length c ∧ (ys ≠ [] → ∃ b o, ad = some ⟨b, o, none⟩ ∧ ∀ (j : Nat) p, (flat ys)[j]? = some p → ∃ v, w.cell? ⟨b, o + j, none⟩ = some v ∧ PRep K p v ∧ v.oneCell' = true) := by
  cases a with
  | pv p =>
    cases p with
    | sl xs =>
      simp only [elems, Option.some.injEq] at he; subst he
      cases hr with
      | pv _ _ hp =>
        cases hp with
        | slNil a c => exact ⟨a, c, rfl, fun h => absurd rfl h⟩
        | sl _ es' b o c vs hcap he hl hr hk =>
          refine ⟨_, c, rfl, fun _ => ⟨b, o, rfl, fun j p hp => ?_⟩⟩
          have hlt : j < vs.length := by rw [← hl]; exact (List.getElem?_eq_some_iff.1 hp).1
          have hv := List.getElem?_eq_getElem hlt
          have := hB.keep _ _ _ (hk j _ hv)
          exact ⟨_, this.1, hr j p _ hp hv, this.2⟩
    | str s => exact absurd rfl (hstr s)
    | _ => simp [elems] at he
  | nilsl =>
    simp only [elems, Option.some.injEq] at he; subst he
    cases hr
    exact ⟨none, 0, rfl, fun h => absurd rfl h⟩
  | arr id ver off len =>
    simp only [elems] at he
    split at he
    · rename_i e xs fz ho
      split at he
      · rename_i hc
        cases he
        obtain ⟨hver, hle⟩ := hc
        have hlen : ((xs.drop off).take len).length = len := by rw [List.length_take, List.length_drop]; omega
        cases hr with
        | arr _ _ _ _ b cap es' c a hm hc hl hv ha =>
          refine ⟨a, c, by rw [hlen], fun hne => ?_⟩
          subst hver
          obtain ⟨rfl, arr, ty, fr, hh, hcap, hmax, hasz, hes, hcr, _, _⟩ := hB.arr_open ho hm
          have hlen0 : 0 < len := by
            rcases Nat.eq_zero_or_pos len with h0 | h0
            · subst h0; simp at hne
            · exact h0
          have ha' : a = some ⟨b, off * es', none⟩ := by
            rcases ha with h0 | h0
            · omega
            · exact h0
          refine ⟨b, off * es', ha', fun j p hp => ?_⟩
          have hes2 : ∀ y ∈ (xs.drop off), y.cells.length = es' := fun y hy => hes y (List.mem_of_mem_drop hy)
          rw [flat_take hes2, flat_drop hes] at hp
          rw [List.getElem?_take] at hp
          split at hp
          · rename_i hj
            rw [List.getElem?_drop] at hp
            have hlt : off * es' + j < arr.size := by
              have := (List.getElem?_eq_some_iff.1 hp).1
              rw [flat_length hes] at this
              have h2 : xs.length * es' ≤ cap * es' := Nat.mul_le_mul_right _ hcap
              omega
            have hv2 : arr[off * es' + j]? = some arr[off * es' + j] := Array.getElem?_eq_getElem hlt
            have := hcr _ _ _ hp hv2
            exact ⟨_, by rw [cell_heap w b _ hh]; exact hv2, this.1, this.2⟩
          · cases hp
        | arrNil _ hm =>
          have : xs = [] := List.eq_nil_of_length_eq_zero hver
          subst this
          exact ⟨none, 0, by simp, fun h => by simp at h⟩
      · cases he
    · cases he
  | _ => simp [elems] at he
theorem flat_bytes (s : List UInt8) : flat (s.map fun b => PV.int .u8 (b.toNat : Int)) = s.map fun b => PV.int .u8 (b.toNat : Int) := by
  induction s with
  | nil => rfl
  | cons b r ih => simp only [flat, List.map_cons, List.flatMap_cons, PV.cells] at *; rw [ih]; rfl
/-- The first so many elements, as append and copy read them. -/
theorem run_firstCells {C : Ctx} {m K σ w} (hB : Bears C m K σ w) {a : AV} {x : Value} {ys : List PV} (he : elems σ a = some ys) (hr : ARep m K a x) {es : Nat} (hsz : ∀ y ∈ ys, y.cells.length = es) (n : Nat) (hn : n ≤ ys.length) :
    (Builtin.lenOf x).run C.P w = .ok ys.length w ∧ ∃ vs : List Value, (Builtin.firstCells es n x).run C.P w = .ok vs.toArray w ∧ vs.length = n * es ∧
      (∀ (j : Nat) p v, (flat (ys.take n))[j]? = some p → vs[j]? = some v → PRep K p v ∧ v.oneCell' = true) ∧ ∀ v ∈ vs, v.oneCell' = true := by
  have h1of : ∀ vs : List Value, vs.length = n * es → (∀ (j : Nat) p v, (flat (ys.take n))[j]? = some p → vs[j]? = some v → PRep K p v ∧ v.oneCell' = true) → ∀ v ∈ vs, v.oneCell' = true := by
    intro vs hl h v hv
    obtain ⟨j, hj⟩ := List.getElem?_of_mem hv
    have hlt : j < (flat (ys.take n)).length := by
      rw [flat_length (fun y hy => hsz y (List.mem_of_mem_take hy)), List.length_take, Nat.min_eq_left hn, ← hl]
      exact (List.getElem?_eq_some_iff.1 hj).1
    exact (h j _ v (List.getElem?_eq_getElem hlt) hj).2
  by_cases hs : ∃ s, a = .pv (.str s)
  · obtain ⟨s, rfl⟩ := hs
    simp only [elems, Option.some.injEq] at he
    subst he
    cases hr with
    | pv _ _ hp =>
      cases hp
      have hle : n ≤ s.length := by simpa using hn
      have hes : n = 0 ∨ es = 1 := by
        cases s with
        | nil => left; simpa using hle
        | cons b r => right; exact (hsz _ (List.mem_map_of_mem (by simp : b ∈ b :: r))).symm
      refine ⟨by simp [Builtin.lenOf, ByteArray.size], (s.take n).map (fun b => Value.int .u8 (b.toNat : Int)), ?_, ?_, ?_⟩
      · simp only [Builtin.firstCells, Sem.run_pure]
        congr 1
        apply Array.ext'
        simp [ByteArray.data_extract]
      · simp only [List.length_map, List.length_take, Nat.min_eq_left hle]
        rcases hes with h | h <;> subst h <;> simp
      · have key : ∀ (j : Nat) p v, (flat ((s.map fun b => PV.int .u8 (b.toNat : Int)).take n))[j]? = some p → ((s.take n).map (fun b => Value.int .u8 (b.toNat : Int)))[j]? = some v → PRep K p v ∧ v.oneCell' = true := by
          intro j p v hp hv
          rw [← List.map_take, flat_bytes] at hp
          simp only [List.getElem?_map, Option.map_eq_some_iff] at hp hv
          obtain ⟨b, hb, rfl⟩ := hp
          obtain ⟨b', hb', rfl⟩ := hv
          rw [hb] at hb'; cases hb'
          exact ⟨.int _ _, rfl⟩
        refine ⟨key, fun v hv => ?_⟩
        obtain ⟨b, _, rfl⟩ := List.mem_map.1 hv
        rfl
  · obtain ⟨ad, c, rfl, hat⟩ := elems_at hB he hr hsz (fun s hc => hs ⟨s, hc⟩)
    refine ⟨by simp [Builtin.lenOf], ?_⟩
    by_cases h0 : n = 0
    · subst h0
      refine ⟨[], ?_, by simp, ?_, by simp⟩
      · cases ad <;> simp [Builtin.firstCells, loadCells, loadCellsFrom]
      · intro j p v hp hv; simp at hv
    · have hne : ys ≠ [] := by intro e; subst e; simp at hn; omega
      obtain ⟨b, o, rfl, hc⟩ := hat hne
      have hc' : CellsAt m K w b o ((flat (ys.take n)).map .pv) := by
        intro j a hj
        simp only [List.getElem?_map, Option.map_eq_some_iff] at hj
        obtain ⟨p, hp, rfl⟩ := hj
        rw [flat_take hsz, List.getElem?_take] at hp
        split at hp
        · obtain ⟨v, hv, hr, h1⟩ := hc j p hp
          exact ⟨v, hv, .pv _ _ hr, h1⟩
        · cases hp
      obtain ⟨vs, hl, hvs⟩ := exists_values hc'
      have hlen : vs.length = n * es := by
        rw [hl, List.length_map, flat_length (fun y hy => hsz y (List.mem_of_mem_take hy)), List.length_take, Nat.min_eq_left hn]
      have key : ∀ (j : Nat) p v, (flat (ys.take n))[j]? = some p → vs[j]? = some v → PRep K p v ∧ v.oneCell' = true := by
        intro j p v hp hv
        obtain ⟨u, hu, _, hr, h1⟩ := hvs j (.pv p) (by simp [hp])
        rw [hu] at hv; cases hv
        exact ⟨hr.pv_inv, h1⟩
      refine ⟨vs, ?_, hlen, key, h1of vs hlen key⟩
      simp only [Builtin.firstCells]
      rw [← hlen]
      refine run_loadCells_list (P := C.P) w ⟨b, o, none⟩ vs (fun j v hv => ?_)
      have hlt : j < ((flat (ys.take n)).map AV.pv).length := by rw [← hl]; exact (List.getElem?_eq_some_iff.1 hv).1
      obtain ⟨u, hu, hcell, _⟩ := hvs j _ (List.getElem?_eq_getElem hlt)
      rw [hu] at hv; cases hv
      rw [addr_add]; exact hcell

/-! ### append -/
theorem TIok.slice {P : Program} {t el : TypeId} {ti : TI} (h : TIok P t ti) (hd : ti.td = .slice el) : P.underlying t = some (.slice el) := by
  obtain ⟨i, d, _, hu, _, _, _, e, _⟩ := h
  rw [hd] at e
  cases d <;> simp [TD.of] at e
  subst e
  exact hu
theorem run_append_room' {P : Program} {t t2 ty el : TypeId} {i : TypeInfo} {d2 : TypeDesc} (ht : P.underlying t = some (.slice el)) (hn2 : ∀ k, d2 ≠ .int k) (ht2 : P.underlying t2 = some d2) (hi : P.info? el = some i)
    {a : Option Addr} {sLen sCap n : Nat} {xv : Value} {new : Array Value} {w w' : World} (hlen : (Builtin.lenOf xv).run P w = .ok n w) (hfc : (Builtin.firstCells i.size n xv).run P w = .ok new w)
    (hroom : sLen + n ≤ sCap) (hst : ∀ ad, a = some ad → (storeCells (ad.add (sLen * i.size)) new.toList).run P w = .ok () w') (hnone : a = none → w' = w) :
    (Builtin.append_ #[t, t2] ty #[.slice a sLen sCap, xv]).run P w = .ok (.slice a (sLen + n) sCap) w' := by
  cases a with
  | none =>
    have := hnone rfl
    subst this
    simp [Builtin.append_, run_underlying ht, run_underlying ht2, sizeOf, typeInfo, hi, hlen, hroom, hfc, hn2]
  | some ad =>
    have := hst ad rfl
    simp [Builtin.append_, run_underlying ht, run_underlying ht2, sizeOf, typeInfo, hi, hlen, hroom, hfc, this, hn2]
theorem run_append_grow' {P : Program} {t t2 ty el : TypeId} {i : TypeInfo} {z : Value} {d2 : TypeDesc} (ht : P.underlying t = some (.slice el)) (hn2 : ∀ k, d2 ≠ .int k) (ht2 : P.underlying t2 = some d2) (hi : P.info? el = some i) (hz : i.zero = some z)
    {a : Option Addr} {sLen sCap n : Nat} {xv : Value} {old new : Array Value} {w : World} (hlen : (Builtin.lenOf xv).run P w = .ok n w) (hfo : (Builtin.firstCells i.size sLen (.slice a sLen sCap)).run P w.drew = .ok old w.drew) (hfc : (Builtin.firstCells i.size n xv).run P w.drew = .ok new w.drew)
    (hroom : ¬ sLen + n ≤ sCap) (h63 : sLen + n ≤ maxLen) (h48 : Builtin.nextslicecap (sLen + n) sCap * i.bytes ≤ 281474976710656) :
    (Builtin.append_ #[t, t2] ty #[.slice a sLen sCap, xv]).run P w = .ok (.slice (some ⟨w.heap.size, 0, none⟩) (sLen + n) (grownCap w (sLen + n) sCap el))
      (w.drew.alloc (.cells (old ++ new ++ Builtin.zeroCells z.cells (grownCap w (sLen + n) sCap el - (sLen + n))) el)) := by
  unfold maxLen at h63
  have h1 : ¬ (9223372036854775807 : Int) < (sLen : Int) + n := by omega
  have h2 : ¬ 281474976710656 < Builtin.nextslicecap (sLen + n) sCap * i.bytes := by omega
  have hch : (choose (.appendCap (sLen + n) sCap el)).run P w = .ok (grownCap w (sLen + n) sCap el) w.drew := by
    rw [run_choose]; rfl
  simp [Builtin.append_, run_underlying ht, run_underlying ht2, sizeOf, typeInfo, hi, hlen, hroom, hch, hfo, hfc, zeroValue, hz, IntKind.max, IntKind.bits, IntKind.signed, h1, h2, newRow, hn2, Question.forced, grownCap]

/-- What stands in an array's block turns, and more of it is told. -/
theorem Bears.arr_change {C : Ctx} {m : Mp} {K : KS} {σ : Store} {w : World} (hB : Bears C m K σ w) {id es : Nat} {xs : List PV} {fz : Bool} (ho : σ[id]? = some (.arr es xs fz)) {b cap : Nat} (hm : m id xs.length = some (.at b cap es))
    {w' : World} {arr cur' : Array Value} {ty : TypeId} {fr : Nat × Nat} (hh : w.heap[b]? = some (.cells arr ty fr)) (hs : SameBut b w w') (hb' : w'.heap[b]? = some (.cells cur' ty fr)) (hsz : cur'.size = arr.size)
    (xs' : List PV) (hle : xs.length ≤ xs'.length) (hcap : xs'.length ≤ cap) (he : ∀ x ∈ xs', x.cells.length = es) (hr : ∀ (j : Nat) p v, (flat xs')[j]? = some p → cur'[j]? = some v → PRep K p v ∧ v.oneCell' = true)
    (hK : ∀ (j : Nat) v, K b j v → cur'[j]? = arr[j]?) :
    ∃ m', Bears C m' K (σ.set id (.arr es xs' fz)) w' ∧ Ext m K m' K ∧ m' id xs'.length = some (.at b cap es) := by
  obtain ⟨_, arr', ty', fr', hh', hcap0, hmax, hasz, hes, hcr, hfr, hkk⟩ := hB.arr_open ho hm
  rw [hh] at hh'; cases hh'
  have hver := (hB.obj id _ ho).1
  have hid : id < σ.length := (List.getElem?_eq_some_iff.1 ho).1
  have hblk : b ∈ blk m id (.arr es xs fz) := by simp [blk, Loc.blk, hm]
  have hbase := hB.base id _ b ho hblk
  -- the map
  have key : ∃ m' : Mp, (∀ i v l, m i v = some l → m' i v = some l) ∧ (∀ i, i ≠ id → m' i = m i) ∧ m' id xs'.length = some (.at b cap es) ∧ ∀ ver l, m' id ver = some l → ver ≤ xs'.length := by
    by_cases e : xs'.length = xs.length
    · exact ⟨m, fun _ _ _ h => h, fun _ _ => rfl, by rw [e]; exact hm, fun ver l h => by rw [e]; exact hver ver l h⟩
    · refine ⟨setMp m id xs'.length (.at b cap es), setMp_new ?_, fun i h => setMp_other _ _ _ _ _ h, setMp_same _ _ _ _, fun ver l h => ?_⟩
      · cases h : m id xs'.length with
        | none => rfl
        | some l => have := hver _ _ h; omega
      · unfold setMp at h
        split at h
        · rename_i e2; exact Nat.le_of_eq e2.2
        · exact Nat.le_trans (hver _ _ h) hle
  obtain ⟨m', hm1, hm2, hm3, hm4⟩ := key
  refine ⟨m', hB.step id (.arr es xs' fz) (fun i x h => get_set hid h) (by simp) (by simpa using hid) hm1 hm2 (hs.below hB.below hbase) ?_ ?_ ?_ ?_ ?_, ⟨hm1, fun _ _ _ h => h⟩, hm3⟩
  · intro b2 o v h2
    by_cases e : b2 = b
    · subst e
      rw [cell_heap w b2 _ hh, cell_heap w' b2 _ hb']
      exact hK o v h2
    · simp [World.cell?, hs.block b2 e]
  · intro id' x b2 hne hs2 hb2
    refine hs.block b2 (fun e => ?_)
    subst e
    exact hne (hB.apart id' x id _ b2 hs2 ho hb2 hblk)
  · refine ⟨hm4, .inr ⟨b, cap, cur', ty, fr, hm3, hb', hcap, hmax, by rw [hsz]; exact hasz, he, hr, fun j h1 h2 => hfr j ?_ h2, fun j v h => ⟨(hkk j v h).1, ?_⟩⟩⟩
    · cases fz with
      | true => simp only [if_true] at h1 ⊢; exact Nat.le_trans (Nat.mul_le_mul_right _ hle) h1
      | false => simp
    · exact Nat.lt_of_lt_of_le (hkk j v h).2 (Nat.mul_le_mul_right _ hle)
  · intro b2 h2
    have : b2 = b := by simpa [blk, Loc.blk, hm3] using h2
    rw [this]; exact hbase
  · intro b2 h2 id' x hne hs2 hx
    have : b2 = b := by simpa [blk, Loc.blk, hm3] using h2
    subst this
    exact hne (hB.apart id' x id _ b2 hs2 ho hx hblk)
/-- An array moves into a new block. -/
theorem Bears.arr_move {C : Ctx} {m : Mp} {K : KS} {σ : Store} {w : World} (hB : Bears C m K σ w) {id es : Nat} {xs : List PV} {fz : Bool} (ho : σ[id]? = some (.arr es xs fz))
    (t : TypeId) (cap : Nat) (xs' : List PV) (vs : Array Value) (hlt : xs.length < xs'.length) (hsz : vs.size = cap * es) (hle : xs'.length ≤ cap) (hcap : cap ≤ maxLen)
    (he : ∀ x ∈ xs', x.cells.length = es) (hr : ∀ (j : Nat) p v, (flat xs')[j]? = some p → vs[j]? = some v → PRep K p v ∧ v.oneCell' = true) :
    ∃ m', Bears C m' K (σ.set id (.arr es xs' fz)) (w.alloc (.cells vs t (0, 0))) ∧ Ext m K m' K ∧ m' id xs'.length = some (.at w.heap.size cap es) := by
  have hver := (hB.obj id _ ho).1
  have hid : id < σ.length := (List.getElem?_eq_some_iff.1 ho).1
  have hnone : m id xs'.length = none := by
    cases h : m id xs'.length with
    | none => rfl
    | some l => have := hver _ _ h; omega
  have hsz0 : C.w0.heap.size ≤ w.heap.size := hB.below.size
  have hbl : ∀ b, b ∈ blk (setMp m id xs'.length (.at w.heap.size cap es)) id (.arr es xs' fz) → b = w.heap.size := fun b hb => by simpa [blk, Loc.blk, setMp_same] using hb
  refine ⟨setMp m id xs'.length (.at w.heap.size cap es), hB.step id (.arr es xs' fz) (fun i x h => get_set hid h) (by simp) (by simpa using hid) (setMp_new hnone) (fun i h => setMp_other _ _ _ _ _ h)
    (hB.below.alloc hsz0 _) (fun b i v h => alloc_cell_old _ _ _ _ (hB.keep_lt h)) (fun i x b hne hs hb => alloc_heap_old _ _ _ (hB.lt hs hb)) ?_ ?_ ?_, ⟨setMp_new hnone, fun _ _ _ h => h⟩, setMp_same _ _ _ _⟩
  · refine ⟨fun ver l h => ?_, .inr ⟨w.heap.size, cap, vs, t, (0, 0), setMp_same _ _ _ _, alloc_heap_new _ _, hle, hcap, hsz, he, hr, fun j _ _ => by simp, fun j v h => absurd (hB.keep_lt h) (Nat.lt_irrefl _)⟩⟩
    unfold setMp at h
    split at h
    · rename_i e2; exact Nat.le_of_eq e2.2
    · exact Nat.le_of_lt (Nat.lt_of_le_of_lt (hver _ _ h) hlt)
  · intro b hb
    have := hbl b hb; subst this
    exact hsz0
  · intro b hb i x hne hs hx
    have := hbl b hb; subst this
    exact absurd (hB.lt hs hx) (Nat.lt_irrefl _)

theorem TIok.info {P : Program} {t : TypeId} {ti : TI} (h : TIok P t ti) : ∃ i, P.info? t = some i ∧ i.zero = some ti.zero ∧ i.size = ti.size ∧ i.bytes = ti.bytes := by
  obtain ⟨i, _, hi, _, hz, hs, hb, _, _⟩ := h
  exact ⟨i, hi, hz, hs, hb⟩
theorem TIok.notInt {P : Program} {t : TypeId} {ti : TI} (h : TIok P t ti) (hn : ∀ k, ti.td ≠ .int k) : ∃ d, P.underlying t = some d ∧ ∀ k, d ≠ .int k := by
  obtain ⟨i, d, _, hu, _, _, _, e, _⟩ := h
  refine ⟨d, hu, fun k hk => ?_⟩
  subst hk
  exact hn k e.symm

/-- The cells of the elements of both, one behind the other, in a row with room behind. -/
theorem rep_join {K : KS} {xs ys : List PV} {es : Nat} {old new rest : Array Value} (hx : ∀ x ∈ xs, x.cells.length = es) (ho : old.size = xs.length * es) (hn : new.size = ys.length * es) (hy : ∀ y ∈ ys, y.cells.length = es)
    (hro : ∀ (j : Nat) p v, (flat xs)[j]? = some p → old[j]? = some v → PRep K p v ∧ v.oneCell' = true) (hrn : ∀ (j : Nat) p v, (flat ys)[j]? = some p → new[j]? = some v → PRep K p v ∧ v.oneCell' = true) :
    ∀ (j : Nat) p v, (flat (xs ++ ys))[j]? = some p → (old ++ new ++ rest)[j]? = some v → PRep K p v ∧ v.oneCell' = true := by
  intro j p v hp hv
  rw [flat_append] at hp
  have hfx := flat_length hx
  have hfy := flat_length hy
  have hlt : j < xs.length * es + ys.length * es := by
    have := (List.getElem?_eq_some_iff.1 hp).1
    rw [List.length_append, hfx, hfy] at this
    exact this
  rw [Array.getElem?_append_left (by simp; omega)] at hv
  by_cases h : j < xs.length * es
  · rw [List.getElem?_append_left (by omega)] at hp
    rw [Array.getElem?_append_left (by omega)] at hv
    exact hro j p v hp hv
  · rw [List.getElem?_append_right (by omega), hfx] at hp
    rw [Array.getElem?_append_right (by omega), ho] at hv
    exact hrn _ p v hp hv

theorem zeroCells_size (z : Array Value) (n : Nat) : (Builtin.zeroCells z n).size = n * z.size := by simp [Builtin.zeroCells]
/-- append into a new block. -/
theorem grow_core {C : Ctx} {m : Mp} {K : KS} {σ : Store} {w : World} (hB : Bears C m K σ w) {t t2 ty el : TypeId} {ei : TI} {i : TypeInfo} {d2 : TypeDesc} (hu : C.P.underlying t = some (.slice el)) (hd2 : ∀ k, d2 ≠ .int k) (hu2 : C.P.underlying t2 = some d2) (hE : TIok C.P el ei)
    {s x : AV} {a : Option Addr} {sCap : Nat} {xv : Value} {xs ys : List PV} (hes : elems σ s = some xs) (hs : ARep m K s (.slice a xs.length sCap)) (hxs : ∀ x ∈ xs, x.cells.length = ei.size)
    (hex : elems σ x = some ys) (hx : ARep m K x xv) (hys : ∀ y ∈ ys, y.cells.length = ei.size) (hno : ¬ xs.length + ys.length ≤ sCap) (hroom : roomy (xs.length + ys.length) ei.bytes) :
    ∃ cap vs, (Builtin.append_ #[t, t2] ty #[.slice a xs.length sCap, xv]).run C.P w = .ok (.slice (some ⟨w.heap.size, 0, none⟩) (xs.length + ys.length) cap) (w.drew.alloc (.cells vs el)) ∧
      (xs ++ ys).length ≤ cap ∧ cap ≤ maxLen ∧ vs.size = cap * ei.size ∧ ∀ (j : Nat) p v, (flat (xs ++ ys))[j]? = some p → vs[j]? = some v → PRep K p v ∧ v.oneCell' = true := by
  obtain ⟨i, hi, hz, his, hib⟩ := hE.info
  have hz0 := hE.zero
  obtain ⟨hlen, _⟩ := run_firstCells hB hex hx hys ys.length (Nat.le_refl _)
  obtain ⟨_, new, hfc, hnl, hnr, hn1⟩ := run_firstCells hB.drew hex hx hys ys.length (Nat.le_refl _)
  obtain ⟨_, old, hfo, hol, hor, ho1⟩ := run_firstCells hB.drew hes hs hxs xs.length (Nat.le_refl _)
  rw [List.take_length] at hnr hor
  have hmax : xs.length + ys.length ≤ maxLen := Nat.le_trans hroom.1 (by decide)
  have hcap := grownCap_ge w (xs.length + ys.length) sCap el
  have hrun := run_append_grow' (ty := ty) hu hd2 hu2 hi hz hlen (by rw [his]; exact hfo) (by rw [his]; exact hfc) hno hmax (by rw [hib]; exact growslice_fits (by omega) hroom.2)
  refine ⟨_, _, hrun, by rw [List.length_append]; exact hcap, grownCap_le_maxLen w _ sCap el hmax, ?_, ?_⟩
  · simp only [Array.size_append, zeroCells_size, hz0.1, List.size_toArray, hol, hnl]
    rw [← Nat.add_mul, ← Nat.add_mul]
    congr 1
    omega
  · exact rep_join hxs (by simpa using hol) (by simpa using hnl) hys (fun j p v h1 h2 => hor j p v h1 (by simpa using h2)) (fun j p v h1 h2 => hnr j p v h1 (by simpa using h2))
theorem set_self {α : Type} {l : List α} {i : Nat} {x : α} (h : l[i]? = some x) : l.set i x = l := by
  apply List.ext_getElem?
  intro j
  by_cases e : i = j
  · subst e
    rw [List.getElem?_set_self (List.getElem?_eq_some_iff.1 h).1, h]
  · rw [List.getElem?_set_ne e]
theorem append_sound {C : Ctx} {m : Mp} {K : KS} {σ : Store} {w : World} (hB : Bears C m K σ w) {t t2 ty el : TypeId} {ti ti2 ei : TI} (hT : TIok C.P t ti) (hd : ti.td = .slice el) (hE : TIok C.P el ei) (hT2 : TIok C.P t2 ti2) (hn2 : ∀ k, ti2.td ≠ .int k)
    {s x : AV} {sv xv : Value} (hs : ARep m K s sv) (hx : ARep m K x xv) {r : AV} {σ' : Store} (h : aAppend σ ei s x = some (r, σ')) :
    ∃ v w' m' K', (Builtin.append_ #[t, t2] ty #[sv, xv]).run C.P w = .ok v w' ∧ Bears C m' K' σ' w' ∧ Ext m K m' K' ∧ ARep m' K' r v := by
  obtain ⟨i, hi, hz, his, hib⟩ := hE.info
  obtain ⟨d2, hu2, hd2⟩ := hT2.notInt hn2
  have hu := hT.slice hd
  unfold aAppend at h
  cases hex : elems σ x with
  | none => simp [hex] at h
  | some ys =>
    simp only [hex] at h
    split at h
    · rename_i hall
      have hys := all_len hall
      obtain ⟨hlen, new, hfc, hnl, hnr, hn1⟩ := run_firstCells hB hex hx hys ys.length (Nat.le_refl _)
      rw [List.take_length] at hnr
      -- nothing is appended
      have same : ∀ (a : Option Addr) (l c : Nat), l ≤ c → ys = [] → (Builtin.append_ #[t, t2] ty #[.slice a l c, xv]).run C.P w = .ok (.slice a l c) w := by
        intro a l c hlc e
        subst e
        have hnew : new = [] := List.eq_nil_of_length_eq_zero (by simpa using hnl)
        subst hnew
        have := run_append_room' (ty := ty) (w' := w) (a := a) (sLen := l) (sCap := c) hu hd2 hu2 hi hlen (by rw [his]; exact hfc) (by simpa using hlc) (fun ad _ => by simp [storeCells]) (fun _ => rfl)
        simpa using this
      cases s with
      | nilsl =>
        cases hs
        simp only at h
        by_cases hy : ys = []
        · rw [if_pos hy] at h
          simp only [Option.some.injEq, Prod.mk.injEq] at h
          obtain ⟨rfl, rfl⟩ := h
          exact ⟨_, _, m, K, same none 0 0 (Nat.le_refl _) hy, hB, Ext.refl _ _, .nilsl⟩
        · rw [if_neg hy] at h
          split at h
          · rename_i hroom
            simp only [Option.some.injEq, Prod.mk.injEq] at h
            obtain ⟨rfl, rfl⟩ := h
            have hpos : 0 < ys.length := List.length_pos_iff.2 hy
            obtain ⟨cap, vs, hrun, hle, hmax, hsz, hrep⟩ := grow_core (ty := ty) (i := i) hB hu hd2 hu2 hE (s := .nilsl) (xs := []) rfl .nilsl (by simp) hex hx hys (by simp; omega) (by simpa using hroom)
            obtain ⟨m', h1, h2, h3⟩ := hB.drew.alloc_arr el ei.size cap ys vs (0, 0) hsz (by simpa using hle) hmax hys (by simpa using hrep) (fun j _ => by simp)
            exact ⟨_, _, m', K, by simpa using hrun, h1, h2, by simpa using h3⟩
          · cases h
      | arr id ver off len =>
        simp only at h
        split at h
        · rename_i es xs fz ho
          split at h
          · rename_i hc
            obtain ⟨hver, rfl, hlv, rfl, hroom⟩ := hc
            subst hlv
            subst hver
            simp only [Option.some.injEq, Prod.mk.injEq] at h
            obtain ⟨rfl, rfl⟩ := h
            by_cases hy : ys = []
            · have hlc : ∃ a c, sv = .slice a xs.length c ∧ xs.length ≤ c := by
                rcases hs.arr_inv with ⟨b, cap, es, c, a, rfl, hm, hc, hl, hv, ha⟩ | ⟨h0, _, _, rfl, hm⟩
                · exact ⟨a, c, rfl, by omega⟩
                · exact ⟨none, 0, by rw [h0], by omega⟩
              obtain ⟨a, c, rfl, hle⟩ := hlc
              refine ⟨_, _, m, K, same a xs.length c hle hy, ?_, Ext.refl _ _, ?_⟩
              · subst hy
                rw [List.append_nil, set_self ho]
                exact hB
              · subst hy
                simpa using hs
            · have hpos : 0 < ys.length := List.length_pos_iff.2 hy
              have hes : elems σ (.arr id xs.length 0 xs.length) = some xs := by simp [elems, ho]
              have grow : ∀ (a : Option Addr) (c : Nat), sv = .slice a xs.length c → (∀ x ∈ xs, x.cells.length = ei.size) → ¬ xs.length + ys.length ≤ c → ∃ v w' m' K', (Builtin.append_ #[t, t2] ty #[sv, xv]).run C.P w = .ok v w' ∧
                  Bears C m' K' (σ.set id (.arr ei.size (xs ++ ys) fz)) w' ∧ Ext m K m' K' ∧ ARep m' K' (.arr id (xs.length + ys.length) 0 (xs.length + ys.length)) v := by
                intro a c e hxs hno
                subst e
                obtain ⟨cap, vs, hrun, hle, hmax, hsz, hrep⟩ := grow_core (ty := ty) (i := i) hB hu hd2 hu2 hE hes hs hxs hex hx hys hno hroom
                obtain ⟨m', h1, h2, h3⟩ := hB.drew.arr_move ho el cap (xs ++ ys) vs (by rw [List.length_append]; omega) hsz hle hmax (fun x hx => by
                  rcases List.mem_append.1 hx with h | h
                  · exact hxs x h
                  · exact hys x h) hrep
                rw [List.length_append] at h3 hle
                exact ⟨_, _, m', K, hrun, h1, h2, .arr _ _ _ _ _ _ _ _ _ h3 rfl (by omega) hle (.inr (by simp))⟩
              rcases hs.arr_inv with ⟨b, cap, es, c, a, e, hm, hc, hl, hv, ha⟩ | ⟨h0, _, _, e, hm⟩
              · obtain ⟨rfl, arr, ty', fr, hh, hcap, hmax, hasz, hxs, hcr, hfr, hkk⟩ := hB.arr_open ho hm
                by_cases hin : xs.length + ys.length ≤ c
                · have hca : c = cap := by omega
                  subst hca
                  have ha' : a = some ⟨b, 0, none⟩ := by
                    rcases ha with h0 | h0
                    · omega
                    · simpa using h0
                  subst ha'
                  subst e
                  have hmul : xs.length * ei.size + ys.length * ei.size ≤ c * ei.size := by rw [← Nat.add_mul]; exact Nat.mul_le_mul_right _ hin
                  obtain ⟨w', cur', hst, hsb, hb', hsz', hk⟩ := run_storeCells C.P b (xs.length * ei.size) ty' fr new 0 arr w hh (by rw [hnl, hasz]; omega) (fun j h1 h2 => hfr j (by split <;> omega) (by rw [hnl] at h2; omega)) hn1
                  have hcur : ∀ k, cur'[k]? = if xs.length * ei.size ≤ k ∧ k < xs.length * ei.size + ys.length * ei.size then new[k - xs.length * ei.size]? else arr[k]? := by
                    intro k
                    have := hk k
                    rw [hnl] at this
                    simpa using this
                  have hfx := flat_length hxs
                  have hfy := flat_length hys
                  obtain ⟨m', h1, h2, h3⟩ := hB.arr_change ho hm hh hsb hb' hsz' (xs ++ ys) (by simp) (by simpa using hin) (fun x hx => by
                    rcases List.mem_append.1 hx with h | h
                    · exact hxs x h
                    · exact hys x h) (fun j p v hp hv => by
                      rw [flat_append] at hp
                      rw [hcur] at hv
                      by_cases hj : j < xs.length * ei.size
                      · rw [List.getElem?_append_left (by omega)] at hp
                        rw [if_neg (by omega)] at hv
                        exact hcr j p v hp hv
                      · have hlt : j < xs.length * ei.size + ys.length * ei.size := by
                          have := (List.getElem?_eq_some_iff.1 hp).1
                          rw [List.length_append] at this
                          omega
                        rw [List.getElem?_append_right (by omega), hfx] at hp
                        rw [if_pos (by omega)] at hv
                        exact hnr _ p v hp hv) (fun j v hK => by
                      rw [hcur, if_neg]
                      have := (hkk j v hK).2
                      omega)
                  rw [List.length_append] at h3
                  refine ⟨_, w', m', K, run_append_room' (ty := ty) hu hd2 hu2 hi hlen (by rw [his]; exact hfc) hin (fun ad had => ?_) (fun h => by cases h), h1, h2, .arr _ _ _ _ _ _ _ _ _ h3 (by omega) (by omega) hin (.inr (by simp))⟩
                  cases had
                  rw [his, addr_add, Nat.zero_add]
                  exact hst
                · exact grow a c e hxs hin
              · have hnil : xs = [] := List.eq_nil_of_length_eq_zero h0
                subst hnil
                exact grow none 0 e (by simp) (by simp; omega)
          · cases h
        · cases h
      | _ => simp at h
    · cases h

end Go.Sv
