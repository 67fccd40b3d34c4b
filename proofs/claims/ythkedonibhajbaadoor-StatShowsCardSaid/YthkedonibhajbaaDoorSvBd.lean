/- strings.Builder's methods, with all that they leave as it was: after the shelf's own contracts, but with a frame block by block. No program stands in this text: over any program and any numbering that bear the bodies. -/
import Derived.Shelf.Strings.BuilderK
set_option linter.unusedVariables false
set_option linter.unusedSimpArgs false
namespace Go.Sv
open Go Go.RowKit Go.Shelf Go.Proofs
variable {P : Program} {ρ ρ' : Ren}

/-- A builder's two cells and its buffer. -/
def BIs (T e : TypeId) (w : World) (b : Nat) (p v : Value) (bs : List Value) : Prop :=
  w.heap[b]? = some (.cells #[p, v] T (0, 0)) ∧ w.ownsRowF 0 e 1 v bs.length bs ∧ v.ownBlock ≠ some b
/-- All but the builder and its buffer is as it was; the buffer is the one that was, or a new one. -/
def BFrame (w w' : World) (b : Nat) (v v' : Value) (same : Prop) : Prop :=
  w'.os = w.os ∧ w'.tape = w.tape ∧ w'.output = w.output ∧ w.heap.size ≤ w'.heap.size ∧ (∀ k, k < w.heap.size → k ≠ b → v.ownBlock ≠ some k → w'.heap[k]? = w.heap[k]?) ∧
  (∀ g, v'.ownBlock = some g → v.ownBlock = some g ∨ w.heap.size ≤ g) ∧ (same → v' = v)
def BPost (T e : TypeId) (w w' : World) (b : Nat) (v : Value) (bs bs' : List Value) : Prop :=
  ∃ v', BIs T e w' b (.pointer (some ⟨b, 0, none⟩)) v' bs' ∧ BFrame w w' b v v' (bs'.length = bs.length)

/-- Which block a buffer lies in behind an append of 'k'. -/
def BFr (w : World) (v v' : Value) (k : Nat) : Prop := (∀ g, v'.ownBlock = some g → v.ownBlock = some g ∨ w.heap.size ≤ g) ∧ (k = 0 → v' = v)
section
variable (w : World)
theorem run_bld_str (t u ty e : TypeId) (i : TypeInfo) (ht : P.underlying t = some (.slice e)) (hu : P.underlying u = some .string) (hi : P.info? e = some i) (hz : i.zero = some (.int .u8 0)) (hsize : i.size = 1) (hby : i.bytes = 1)
    (v : Value) (n : Nat) (xs : List Value) (hown : w.ownsRowF 0 e 1 v n xs) (s : ByteArray) (h63 : n + s.size ≤ maxLen) (hbytes : n + s.size ≤ 140737488355328) :
    ∃ v' w', (Builtin.append_ #[t, u] ty #[v, .string s]).run P w = .ok v' w' ∧ w'.ownsRowF 0 e 1 v' (n + s.size) (xs ++ Lib.strCells s) ∧ w.grownBy w' v.ownBlock ∧ (∀ g, v'.ownBlock = some g → v.ownBlock = some g ∨ w.heap.size ≤ g) ∧ (s.size = 0 → v' = v) := by
  obtain ⟨v', w', h1, h2, h3, h4⟩ := Lib.run_append_own_stringF (P := P) w 0 t u ty e i ht hu hi hz hsize hby v n xs hown s h63 hbytes (Nat.zero_le _)
  refine ⟨v', w', h1, h2, h3, ?_⟩
  rcases hown.2 with ⟨rfl, rfl⟩ | ⟨g, cap, cur, fz, rfl, hbg, hg, hfz, hnc, hcm, hcs, htake⟩
  · obtain ⟨v2, w2, r1, r2, r3, r4⟩ := Lib.run_append_own_stringF (P := P) w w.heap.size t u ty e i ht hu hi hz hsize hby (.slice none 0 0) 0 xs ⟨hown.1, .inl ⟨rfl, rfl⟩⟩ s h63 hbytes (Nat.le_refl _)
    rw [h1] at r1
    cases r1
    exact ⟨fun g hg => .inr (r2.lt g hg).1, fun h0 => h4.2 ⟨rfl, h0⟩⟩
  · by_cases hroom : n + s.size ≤ cap
    · have hr := Lib.run_append_room_stringF (P := P) w t u ty e i ht hu hi hsize g n cap cur fz hg (by simpa using hfz) s hroom (by omega)
      rw [h1] at hr
      cases hr
      exact ⟨fun g' hg' => .inl hg', fun h0 => by simp [h0]⟩
    · have holds : ∀ j u, xs[j]? = some u → w.cell? ((⟨g, 0, none⟩ : Addr).add j) = some u := hown.cells (g := g) rfl
      have hxl : xs.length = n := by simpa using hown.1
      have hr := Lib.run_append_grow_string (P := P) w t u ty e i (.int .u8 0) ht hu hi hz ⟨g, 0, none⟩ n cap xs (by rw [hsize]; simpa using hxl) holds s (by omega) (by unfold maxLen at h63; omega) (by rw [hby]; exact growslice_fits (by omega) (by omega))
      rw [h1] at hr
      cases hr
      refine ⟨fun g' hg' => .inr ?_, fun h0 => absurd hroom (by omega)⟩
      simp [Value.ownBlock] at hg'
      omega
theorem wp_bld_str {ops : Array Oper} {rest : List Oper} {o : Oper} {a : Act} {Q : Exit → Act → World → Prop} (hgd : o.guard = none) (sl x : Operand) (t u : TypeId)
    (ho : o.op = .call { callee := .builtin .append, args := #[sl, x], argTypes := #[t, u] })
    (e : TypeId) (i : TypeInfo) (ht : P.underlying t = some (.slice e)) (hu : P.underlying u = some .string) (hi : P.info? e = some i) (hz : i.zero = some (.int .u8 0)) (hsize : i.size = 1) (hby : i.bytes = 1)
    (v : Value) (n : Nat) (xs : List Value) (hs : a.eval sl = v) (hown : w.ownsRowF 0 e 1 v n xs) (s : ByteArray) (hx : a.eval x = .string s) (h63 : n + s.size ≤ maxLen) (hbytes : n + s.size ≤ 140737488355328)
    (h : ∀ v' w', w'.ownsRowF 0 e 1 v' (n + s.size) (xs ++ Lib.strCells s) → w.grownBy w' v.ownBlock → BFr w v v' s.size → wpList P ops Q rest (a.put o.dst v') w') : wpList P ops Q (o :: rest) a w := by
  refine wpList_plain hgd fun K hK => ?_
  obtain ⟨v', w', hr, h2, h3, h4, h5⟩ := run_bld_str (P := P) w t u o.type e i ht hu hi hz hsize hby v n xs hown s h63 hbytes
  unfold Oper.wp execOp
  simp only [ho, resolve, invoke, builtin, Sem.run_bind, Sem.run_pure, Result.andThen_ok, List.map_toArray, List.map_cons, List.map_nil, hs, hx, hr]
  exact hK _ _ (h v' w' h2 h3 ⟨h4, h5⟩)
theorem run_bld_sl (t ty e : TypeId) (i : TypeInfo) (ht : P.underlying t = some (.slice e)) (hi : P.info? e = some i) (hz : i.zero = some (.int .u8 0)) (hsize : i.size = 1) (hby : i.bytes = 1)
    (v : Value) (n : Nat) (xs : List Value) (hown : w.ownsRowF 0 e 1 v n xs) (ad : Addr) (m c : Nat) (news : List Value) (hl : news.length = m) (hnews : ∀ j u, news[j]? = some u → w.cell? (ad.add j) = some u) (h1 : ∀ u ∈ news, u.oneCell' = true)
    (h63 : n + m ≤ maxLen) (hbytes : n + m ≤ 140737488355328) :
    ∃ v' w', (Builtin.append_ #[t, t] ty #[v, .slice (some ad) m c]).run P w = .ok v' w' ∧ w'.ownsRowF 0 e 1 v' (n + m) (xs ++ news) ∧ w.grownBy w' v.ownBlock ∧ (∀ g, v'.ownBlock = some g → v.ownBlock = some g ∨ w.heap.size ≤ g) ∧ (m = 0 → v' = v) := by
  have hz1 : (Value.int IntKind.u8 0).cells.size = 1 := rfl
  have hl1 : news.length = m * 1 := by omega
  have hb1 : (n + m) * 1 ≤ 140737488355328 := by omega
  obtain ⟨v', w', r1, r2, r3, r4⟩ := run_append_ownF (P := P) w 0 t ty e i _ 1 1 ht hi hz hsize hby hz1 (by decide) v n xs hown ad m c news hl1 hnews h1 h63 hb1 (Nat.zero_le _)
  refine ⟨v', w', r1, r2, r3, ?_⟩
  rcases hown.2 with ⟨rfl, rfl⟩ | ⟨g, cap, cur, fz, rfl, hbg, hg, hfz, hnc, hcm, hcs, htake⟩
  · obtain ⟨v2, w2, q1, q2, q3, q4⟩ := run_append_ownF (P := P) w w.heap.size t ty e i _ 1 1 ht hi hz hsize hby hz1 (by decide) (.slice none 0 0) 0 xs ⟨hown.1, .inl ⟨rfl, rfl⟩⟩ ad m c news hl1 hnews h1 h63 hb1 (Nat.le_refl _)
    rw [r1] at q1
    cases q1
    exact ⟨fun g hg => .inr (q2.lt g hg).1, fun h0 => r4.2 ⟨rfl, h0⟩⟩
  · by_cases hroom : n + m ≤ cap
    · have hr := run_append_roomF (P := P) w t ty e i ht hi g n cap cur fz hg (by rw [hsize]; exact hfz) ad m c news (by rw [hsize]; exact hl1) hnews h1 hroom (by rw [hsize]; omega)
      rw [r1] at hr
      cases hr
      exact ⟨fun g' hg' => .inl hg', fun h0 => by simp [h0]⟩
    · have holds : ∀ j u, xs[j]? = some u → w.cell? ((⟨g, 0, none⟩ : Addr).add j) = some u := hown.cells (g := g) rfl
      have hxl : xs.length = n := by simpa using hown.1
      have hr := run_append_grow (P := P) w t ty e i (.int .u8 0) ht hi hz ⟨g, 0, none⟩ n cap xs (by rw [hsize]; simpa using hxl) holds ad m c news (by rw [hsize]; exact hl1) hnews (by omega) (by unfold maxLen at h63; omega) (by rw [hby]; exact growslice_fits (by omega) (by omega))
      rw [r1] at hr
      cases hr
      refine ⟨fun g' hg' => .inr ?_, fun h0 => absurd hroom (by omega)⟩
      simp [Value.ownBlock] at hg'
      omega
theorem wp_bld_sl {ops : Array Oper} {rest : List Oper} {o : Oper} {a : Act} {Q : Exit → Act → World → Prop} (hgd : o.guard = none) (sl x : Operand) (t : TypeId)
    (ho : o.op = .call { callee := .builtin .append, args := #[sl, x], argTypes := #[t, t] })
    (e : TypeId) (i : TypeInfo) (ht : P.underlying t = some (.slice e)) (hi : P.info? e = some i) (hz : i.zero = some (.int .u8 0)) (hsize : i.size = 1) (hby : i.bytes = 1)
    (v : Value) (n : Nat) (xs : List Value) (hs : a.eval sl = v) (hown : w.ownsRowF 0 e 1 v n xs) (ad : Addr) (m c : Nat) (news : List Value) (hx : a.eval x = .slice (some ad) m c) (hl : news.length = m) (hnews : ∀ j u, news[j]? = some u → w.cell? (ad.add j) = some u) (h1 : ∀ u ∈ news, u.oneCell' = true)
    (h63 : n + m ≤ maxLen) (hbytes : n + m ≤ 140737488355328)
    (h : ∀ v' w', w'.ownsRowF 0 e 1 v' (n + m) (xs ++ news) → w.grownBy w' v.ownBlock → BFr w v v' m → wpList P ops Q rest (a.put o.dst v') w') : wpList P ops Q (o :: rest) a w := by
  refine wpList_plain hgd fun K hK => ?_
  obtain ⟨v', w', hr, h2, h3, h4, h5⟩ := run_bld_sl (P := P) w t o.type e i ht hi hz hsize hby v n xs hown ad m c news hl hnews h1 h63 hbytes
  unfold Oper.wp execOp
  simp only [ho, resolve, invoke, builtin, Sem.run_bind, Sem.run_pure, Result.andThen_ok, List.map_toArray, List.map_cons, List.map_nil, hs, hx, hr]
  exact hK _ _ (h v' w' h2 h3 ⟨h4, h5⟩)
end

theorem BIs.lt {T e : TypeId} {w : World} {b : Nat} {p v : Value} {bs : List Value} (h : BIs T e w b p v bs) : b < w.heap.size := (Array.getElem?_eq_some_iff.1 h.1).1
/-- What copyCheck leaves. -/
def BUsed (T e : TypeId) (w w' : World) (b : Nat) (v : Value) (bs : List Value) : Prop := BIs T e w' b (.pointer (some ⟨b, 0, none⟩)) v bs ∧ SameButN b w w'
  where SameButN (b : Nat) (w w' : World) : Prop := w'.os = w.os ∧ w'.tape = w.tape ∧ w'.output = w.output ∧ w'.heap.size = w.heap.size ∧ ∀ k, k ≠ b → w'.heap[k]? = w.heap[k]?
theorem bld_shut {T e : TypeId} {w w1 w2 : World} {b : Nat} {v v' : Value} {bs bs' : List Value} (hTe : T ≠ e) (h1 : BUsed T e w w1 b v bs) (hgrow : w1.grownBy w2 v.ownBlock) (hown' : w2.ownsRowF 0 e 1 v' bs'.length bs') (hg : ∀ g, v'.ownBlock = some g → v.ownBlock = some g ∨ w1.heap.size ≤ g) (hs : bs'.length = bs.length → v' = v) :
    BPost T e w (w2.setCell ⟨b, 1, none⟩ v') b v bs bs' := by
  obtain ⟨⟨hb, hown, hne⟩, o1, o2, o3, o4, o5⟩ := h1
  have hlt := (Array.getElem?_eq_some_iff.1 hb).1
  have hb2 : w2.heap[b]? = some (.cells #[.pointer (some ⟨b, 0, none⟩), v] T (0, 0)) := by rw [hgrow.block b hlt (fun e => hne e.symm)]; exact hb
  have hne' : v'.ownBlock ≠ some b := fun h => by
    rcases hg b h with h | h
    · exact hne h
    · omega
  refine ⟨v', ⟨?_, ?_, hne'⟩, by rw [← o1, ← hgrow.os]; rfl, by rw [← o2, ← hgrow.tape]; rfl, by rw [← o3, ← hgrow.output]; rfl, ?_, ?_, fun g h => by rw [← o4]; exact hg g h, hs⟩
  · simp only [World.setCell, Array.getElem?_modify, if_true, hb2, Option.map_some]
    rfl
  · refine hown'.kept (row := some b) ⟨rfl, rfl, rfl, by simp [World.setCell], fun k hk hkn => Below.heap_setCell _ _ _ _ (fun ek => hkn (by rw [ek]))⟩ (.inr hne')
  · have := hgrow.size
    simp only [World.setCell, Array.size_modify]
    omega
  · intro k hk hkb hkv
    rw [Below.heap_setCell _ _ _ _ hkb, hgrow.block k (by omega) (fun e => hkv e.symm), o5 k hkb]
theorem freeze_other (w : World) (g o n k : Nat) (h : k ≠ g) : (w.freeze ⟨g, o, none⟩ n).heap[k]? = w.heap[k]? := by
  unfold World.freeze
  split
  · rfl
  · show (w.heap.modify g _)[k]? = _
    rw [Array.getElem?_modify, if_neg (fun e => h e.symm)]
theorem freeze_rest (w : World) (a : Addr) (n : Nat) : (w.freeze a n).os = w.os ∧ (w.freeze a n).tape = w.tape ∧ (w.freeze a n).output = w.output ∧ (w.freeze a n).heap.size = w.heap.size := by
  unfold World.freeze
  split
  · exact ⟨rfl, rfl, rfl, rfl⟩
  · refine ⟨rfl, rfl, rfl, ?_⟩
    show (w.heap.modify _ _).size = _
    rw [Array.size_modify]
end Go.Sv
