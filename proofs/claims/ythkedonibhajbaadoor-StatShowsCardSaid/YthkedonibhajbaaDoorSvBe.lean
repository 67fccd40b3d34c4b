/- strings.Builder's methods walked once more, with a frame block by block (after the shelf's walks). No program stands in this text: over any program and any numbering that bear the bodies. -/
import Derived.Test.YthkedonibhajbaaDoorSvBd
import Derived.Shelf.Lays7
set_option linter.unusedVariables false
set_option linter.unusedSimpArgs false
namespace Go.Sv
open Go Go.RowKit Go.Shelf Go.Proofs
variable {P : Program} {ρ ρ' : Ren}

theorem bld_copyCheck (L : Lays.n240 P ρ) (X : Builder.X72 P ρ) {e : TypeId} {w : World} {b : Nat} {p v : Value} {bs : List Value} (h : BIs (ρ.t 72) e w b p v bs) (hp : p = .pointer none ∨ p = .pointer (some ⟨b, 0, none⟩)) :
    Calls P (ρ.f 240) #[.pointer (some ⟨b, 0, none⟩)] w fun ed w' => ed = .returned (.tuple #[]) ∧ BUsed (ρ.t 72) e w w' b v bs := by
  obtain ⟨hb, hown, hne⟩ := h
  have c0 : w.cell? ⟨b, 0, none⟩ = some p := by rw [Lib.cell_of_heap hb]; rfl
  rcases hp with rfl | rfl
  · refine (Any.Builder_copyCheck_fresh L X b w c0 (by simp [World.shape?, hb]) (Lib.frozen_of_heap hb 0)).mono ?_
    rintro ed w' ⟨rfl, rfl⟩
    refine ⟨rfl, ⟨?_, ?_, hne⟩, rfl, rfl, rfl, by simp [World.setCell], fun k hk => Below.heap_setCell _ _ _ _ hk⟩
    · have hlt := (Array.getElem?_eq_some_iff.1 hb).1
      simp only [World.setCell, Array.getElem?_modify, if_true, hb, Option.map_some]
      rfl
    · refine hown.kept (row := some b) ⟨rfl, rfl, rfl, by simp [World.setCell], fun k hk hkn => Below.heap_setCell _ _ _ _ (fun ek => hkn (by rw [ek]))⟩ (.inr hne)
  · refine (Any.Builder_copyCheck_used L X b w c0).mono ?_
    rintro ed w' ⟨rfl, rfl⟩
    exact ⟨rfl, ⟨hb, hown, hne⟩, rfl, rfl, rfl, rfl, fun _ _ => rfl⟩

set_option maxHeartbeats 2000000 in
set_option maxRecDepth 100000 in
theorem bld_WriteString (L : Lays.n166 P ρ) (X : Builder.Extra P ρ) {w : World} {b : Nat} {p v : Value} {bs : List Value} (s : ByteArray) (h : BIs (ρ.t 72) (ρ.t 5) w b p v bs) (hp : p = .pointer none ∨ p = .pointer (some ⟨b, 0, none⟩)) (hlen : bs.length + s.size ≤ 140737488355328) :
    Calls P (ρ.f 166) #[.pointer (some ⟨b, 0, none⟩), .string s] w fun ed w' => ed = .returned (.tuple #[.int .i64 s.size, .nilIface]) ∧ BPost (ρ.t 72) (ρ.t 5) w w' b v bs (bs ++ Lib.strCells s) := by
  obtain ⟨i0, hi, hz0, hz1, hz2⟩ := info_parts X.infoByte
  have mixed := L.mixed
  have t72 := L.t72; have a72 := L.a72; have z72 := L.z72; have v72 := L.v72; have u72 := run_underlying L.t72
  have t70 := L.t70; have a70 := L.a70; have z70 := L.z70; have v70 := L.v70; have u70 := run_underlying L.t70
  have t37 := L.t37; have a37 := L.a37; have z37 := L.z37; have v37 := L.v37; have u37 := run_underlying L.t37
  have t3 := L.t3; have a3 := L.a3; have z3 := L.z3; have v3 := L.v3; have u3 := run_underlying L.t3
  have t9 := L.t9; have a9 := L.a9; have z9 := L.z9; have v9 := L.v9; have u9 := run_underlying L.t9
  have t4 := L.t4; have a4 := L.a4; have z4 := L.z4; have v4 := L.v4; have u4 := run_underlying L.t4
  have t164 := L.t164; have a164 := L.a164; have z164 := L.z164; have v164 := L.v164; have u164 := run_underlying L.t164
  have t5 := X.t5; have a5 := X.a5; have z5 := X.z5; have v5 := X.v5; have u5 := run_underlying X.t5
  have e240 : ∀ args w, (callFunc (ρ.f 240) args).run P w = .ok (.enter (ρ.f 240) args) w := enters_of L.f240 (by kernel_rfl) rfl
  go_enter L.f166, Body.n166_ntmps ρ
  go_wp2_with (go_at_fn (ρ.f 240); refine (bld_copyCheck { L with } X.toX72 h hp).mono ?_)
  rintro ed w1 ⟨rfl, hU⟩
  have hU' := hU
  obtain ⟨⟨hbk, hown, hne⟩, ho⟩ := hU'
  clear ho
  have c0 : w1.cell? ⟨b, 0, none⟩ = some (.pointer (some ⟨b, 0, none⟩)) := by rw [Lib.cell_of_heap hbk]; rfl
  have c1 : w1.cell? ⟨b, 1, none⟩ = some v := by rw [Lib.cell_of_heap hbk]; rfl
  go_wp2_with (at_builtin; refine wp_bld_str _ rfl _ _ (ρ.t 37) (ρ.t 9) rfl (ρ.t 5) i0 L.t37 L.t9 hi hz0 hz1 hz2 _ _ _ rfl hown s rfl ?c3 ?c4 ?_)
  case c3 => unfold maxLen; omega
  case c4 => omega
  intro v' w2 hown' hgrow hfr
  have hlt : b < w1.heap.size := (Array.getElem?_eq_some_iff.1 hbk).1
  have hb2 : w2.heap[b]? = some (.cells #[.pointer (some ⟨b, 0, none⟩), v] (ρ.t 72) (0, 0)) := by
    rw [hgrow.block b hlt (fun e => hne e.symm)]
    exact hbk
  have d0 : w2.cell? ⟨b, 0, none⟩ = some (.pointer (some ⟨b, 0, none⟩)) := by rw [Lib.cell_of_heap hb2]; rfl
  have d1 : w2.cell? ⟨b, 1, none⟩ = some v := by rw [Lib.cell_of_heap hb2]; rfl
  have f1 : w2.frozen? ⟨b, 1, none⟩ = false := Lib.frozen_of_heap hb2 1
  have hsm' : (bs ++ Lib.strCells s).length = bs.length → v' = v := fun h => hfr.2 (by
    rw [List.length_append, Lib.strCells_length] at h
    omega)
  have hfin : BPost (ρ.t 72) (ρ.t 5) w (w2.setCell ⟨b, 1, none⟩ v') b v bs (bs ++ Lib.strCells s) :=
    bld_shut X.neB5 hU hgrow (by rw [List.length_append, Lib.strCells_length]; exact hown') hfr.1 hsm'
  clear hU hfr hsm'
  obtain ⟨ao, n', cap, rfl⟩ : ∃ ao n' cap, v' = .slice ao n' cap := by
    rcases hown'.2 with ⟨hv, _⟩ | ⟨g, cap, cur, fz, hv, _⟩
    · exact ⟨_, _, _, hv⟩
    · exact ⟨_, _, _, hv⟩
  go_wp2
  go_ret2
  exact ⟨rfl, hfin⟩

set_option maxHeartbeats 2000000 in
set_option maxRecDepth 100000 in
theorem bld_WriteByte (L : Lays.n167 P ρ) (X : Builder.Extra P ρ) {w : World} {b : Nat} {p v : Value} {bs : List Value} (c : Int) (h : BIs (ρ.t 72) (ρ.t 5) w b p v bs) (hp : p = .pointer none ∨ p = .pointer (some ⟨b, 0, none⟩)) (hlen : bs.length + 1 ≤ 140737488355328) :
    Calls P (ρ.f 167) #[.pointer (some ⟨b, 0, none⟩), .int .u8 c] w fun ed w' => ed = .returned .nilIface ∧ BPost (ρ.t 72) (ρ.t 5) w w' b v bs (bs ++ [.int .u8 c]) := by
  obtain ⟨i0, hi, hz0, hz1, hz2⟩ := info_parts X.infoByte
  have mixed := L.mixed
  have t72 := L.t72; have a72 := L.a72; have z72 := L.z72; have v72 := L.v72; have u72 := run_underlying L.t72
  have t70 := L.t70; have a70 := L.a70; have z70 := L.z70; have v70 := L.v70; have u70 := run_underlying L.t70
  have t5 := L.t5; have a5 := L.a5; have z5 := L.z5; have v5 := L.v5; have u5 := run_underlying L.t5
  have t37 := L.t37; have a37 := L.a37; have z37 := L.z37; have v37 := L.v37; have u37 := run_underlying L.t37
  have t9 := L.t9; have a9 := L.a9; have z9 := L.z9; have v9 := L.v9; have u9 := run_underlying L.t9
  have t4 := L.t4; have a4 := L.a4; have z4 := L.z4; have v4 := L.v4; have u4 := run_underlying L.t4
  have t164 := L.t164; have a164 := L.a164; have z164 := L.z164; have v164 := L.v164; have u164 := run_underlying L.t164
  have e240 : ∀ args w, (callFunc (ρ.f 240) args).run P w = .ok (.enter (ρ.f 240) args) w := enters_of L.f240 (by kernel_rfl) rfl
  go_enter L.f167, Body.n167_ntmps ρ
  go_wp2_with (go_at_fn (ρ.f 240); refine (bld_copyCheck { L with } X.toX72 h hp).mono ?_)
  rintro ed w1 ⟨rfl, hU⟩
  have hU' := hU
  obtain ⟨⟨hbk, hown, hne⟩, ho⟩ := hU'
  clear ho
  have c0 : w1.cell? ⟨b, 0, none⟩ = some (.pointer (some ⟨b, 0, none⟩)) := by rw [Lib.cell_of_heap hbk]; rfl
  have c1 : w1.cell? ⟨b, 1, none⟩ = some v := by rw [Lib.cell_of_heap hbk]; rfl
  go_wp2_with (at_builtin; refine wp_bld_sl _ rfl _ _ (ρ.t 37) rfl (ρ.t 5) i0 L.t37 hi hz0 hz1 hz2 _ _ _ rfl (hown.alloc _) ⟨w1.heap.size, 0, none⟩ 1 1 [.int .u8 c] rfl rfl ?c1 ?c2 ?c3 ?c4 ?_)
  case c1 =>
    intro j u hj
    match j, hj with
    | 0, hj => simp at hj; subst hj; simp [Addr.add]
  case c2 => intro u hu; simp at hu; subst hu; rfl
  case c3 => unfold maxLen; omega
  case c4 => omega
  intro v' w2 hown' hgrow hfr
  have hlt : b < w1.heap.size := (Array.getElem?_eq_some_iff.1 hbk).1
  have hgrow1 : w1.grownBy w2 v.ownBlock := ⟨hgrow.os, hgrow.tape, hgrow.output, by have := hgrow.size; simp at this; omega, fun k hk hkn => by
    rw [hgrow.block k (by simp; omega) hkn, Lib.alloc_old w1 _ k hk]⟩
  have hfr1 : ∀ g, v'.ownBlock = some g → v.ownBlock = some g ∨ w1.heap.size ≤ g := fun g hg => by
    rcases hfr.1 g hg with h | h
    · exact .inl h
    · simp at h; exact .inr (by omega)
  have hb2 : w2.heap[b]? = some (.cells #[.pointer (some ⟨b, 0, none⟩), v] (ρ.t 72) (0, 0)) := by
    rw [hgrow1.block b hlt (fun e => hne e.symm)]
    exact hbk
  have d0 : w2.cell? ⟨b, 0, none⟩ = some (.pointer (some ⟨b, 0, none⟩)) := by rw [Lib.cell_of_heap hb2]; rfl
  have d1 : w2.cell? ⟨b, 1, none⟩ = some v := by rw [Lib.cell_of_heap hb2]; rfl
  have f1 : w2.frozen? ⟨b, 1, none⟩ = false := Lib.frozen_of_heap hb2 1
  have hfin : BPost (ρ.t 72) (ρ.t 5) w (w2.setCell ⟨b, 1, none⟩ v') b v bs (bs ++ [.int .u8 c]) :=
    bld_shut X.neB5 hU hgrow1 (by simpa using hown') hfr1 (fun h => by simp at h)
  clear hU hfr hfr1 hgrow
  obtain ⟨g, cap, rfl⟩ : ∃ g cap, v' = .slice (some ⟨g, 0, none⟩) (bs.length + 1) cap := by
    rcases hown'.2 with ⟨_, h0⟩ | ⟨g, cap, cur, fz, hv, _⟩
    · omega
    · exact ⟨g, cap, hv⟩
  go_wp2
  go_ret
  exact ⟨rfl, hfin⟩

set_option maxHeartbeats 2000000 in
set_option maxRecDepth 100000 in
theorem bld_Write (L : Lays7.n35 P ρ) (L' : Lays.n240 P ρ') (X : Builder.Extra P ρ') (hf : ρ.f 52 = ρ'.f 240) (h72 : ρ.t 59 = ρ'.t 72) (h5 : ρ.t 5 = ρ'.t 5) {w : World} {b : Nat} {p v : Value} {bs : List Value} (ad : Addr) (m c : Nat) (news : List Value)
    (h : BIs (ρ.t 59) (ρ.t 5) w b p v bs) (hp : p = .pointer none ∨ p = .pointer (some ⟨b, 0, none⟩)) (hl : news.length = m) (hnews : ∀ j u, news[j]? = some u → w.cell? (ad.add j) = some u) (hadb : ad.block ≠ b) (h1 : ∀ u ∈ news, u.oneCell' = true) (hlen : bs.length + m ≤ 140737488355328) :
    Calls P (ρ.f 35) #[.pointer (some ⟨b, 0, none⟩), .slice (some ad) m c] w fun ed w' => ed = .returned (.tuple #[.int .i64 m, .nilIface]) ∧ BPost (ρ.t 59) (ρ.t 5) w w' b v bs (bs ++ news) := by
  have hib := X.infoByte
  have hne5 := X.neB5
  have cC : BIs (ρ.t 59) (ρ.t 5) w b p v bs → Calls P (ρ.f 52) #[.pointer (some ⟨b, 0, none⟩)] w fun ed w' => ed = .returned (.tuple #[]) ∧ BUsed (ρ.t 59) (ρ.t 5) w w' b v bs := by
    rw [hf, h72, h5]
    exact fun h => bld_copyCheck L' X.toX72 h hp
  rw [← h5] at hib hne5
  rw [← h72] at hne5
  clear hf h72 h5 X L' hp
  obtain ⟨i0, hi, hz0, hz1, hz2⟩ := info_parts hib
  have mixed := L.mixed
  have t0 := L.t0; have a0 := L.a0; have z0 := L.z0; have v0 := L.v0; have t3 := L.t3; have a3 := L.a3; have z3 := L.z3; have v3 := L.v3; have t4 := L.t4; have a4 := L.a4; have z4 := L.z4; have v4 := L.v4; have t9 := L.t9; have a9 := L.a9; have z9 := L.z9; have v9 := L.v9; have t20 := L.t20; have a20 := L.a20; have z20 := L.z20; have v20 := L.v20; have t30 := L.t30; have a30 := L.a30; have z30 := L.z30; have v30 := L.v30; have t36 := L.t36; have a36 := L.a36; have z36 := L.z36; have v36 := L.v36; have t38 := L.t38; have a38 := L.a38; have z38 := L.z38; have v38 := L.v38; have t59 := L.t59; have a59 := L.a59; have z59 := L.z59; have v59 := L.v59; have t73 := L.t73; have a73 := L.a73; have z73 := L.z73; have v73 := L.v73
  have u0 := run_underlying L.t0; have u3 := run_underlying L.t3; have u4 := run_underlying L.t4; have u9 := run_underlying L.t9; have u20 := run_underlying L.t20; have u30 := run_underlying L.t30; have u36 := run_underlying L.t36; have u38 := run_underlying L.t38; have u59 := run_underlying L.t59; have u73 := run_underlying L.t73
  have e52 : ∀ args w, (callFunc (ρ.f 52) args).run P w = .ok (.enter (ρ.f 52) args) w := enters_of L.f52 (by kernel_rfl) rfl
  go_enter L.f35, Body7.n35_ntmps ρ
  go_wp2_with (go_at_fn (ρ.f 52); refine (cC h).mono ?_)
  rintro ed w1 ⟨rfl, hU⟩
  have hU' := hU
  obtain ⟨⟨hbk, hown, hne⟩, ho⟩ := hU'
  have hnews1 : ∀ j u, news[j]? = some u → w1.cell? (ad.add j) = some u := fun j u hj => by
    rw [World.cell?_of_block (w := w) (ho.2.2.2.2 _ (by unfold Addr.add; split <;> exact hadb))]
    exact hnews j u hj
  clear ho
  have c0 : w1.cell? ⟨b, 0, none⟩ = some (.pointer (some ⟨b, 0, none⟩)) := by rw [Lib.cell_of_heap hbk]; rfl
  have c1 : w1.cell? ⟨b, 1, none⟩ = some v := by rw [Lib.cell_of_heap hbk]; rfl
  go_wp2_with (at_builtin; refine wp_bld_sl _ rfl _ _ (ρ.t 30) rfl (ρ.t 5) i0 L.t30 hi hz0 hz1 hz2 _ _ _ rfl hown ad m c news rfl hl hnews1 h1 ?c3 ?c4 ?_)
  case c3 => unfold maxLen; omega
  case c4 => omega
  intro v' w2 hown' hgrow hfr
  have hlt : b < w1.heap.size := (Array.getElem?_eq_some_iff.1 hbk).1
  have hb2 : w2.heap[b]? = some (.cells #[.pointer (some ⟨b, 0, none⟩), v] (ρ.t 59) (0, 0)) := by
    rw [hgrow.block b hlt (fun e => hne e.symm)]
    exact hbk
  have d0 : w2.cell? ⟨b, 0, none⟩ = some (.pointer (some ⟨b, 0, none⟩)) := by rw [Lib.cell_of_heap hb2]; rfl
  have d1 : w2.cell? ⟨b, 1, none⟩ = some v := by rw [Lib.cell_of_heap hb2]; rfl
  have f1 : w2.frozen? ⟨b, 1, none⟩ = false := Lib.frozen_of_heap hb2 1
  have hfin : BPost (ρ.t 59) (ρ.t 5) w (w2.setCell ⟨b, 1, none⟩ v') b v bs (bs ++ news) :=
    bld_shut hne5 hU hgrow (by rw [List.length_append, hl]; exact hown') hfr.1 (fun h => hfr.2 (by rw [List.length_append, hl] at h; omega))
  clear hU hfr
  obtain ⟨ao, n', cap, rfl⟩ : ∃ ao n' cap, v' = .slice ao n' cap := by
    rcases hown'.2 with ⟨hv, _⟩ | ⟨g, cap, cur, fz, hv, _⟩
    · exact ⟨_, _, _, hv⟩
    · exact ⟨_, _, _, hv⟩
  go_wp2
  go_ret2
  exact ⟨rfl, hfin⟩

/-- What String leaves: the buffer's bytes frozen at the most, a view laid at the most. -/
def BRead (T e : TypeId) (w w' : World) (b : Nat) (p v : Value) (bs : List Value) : Prop :=
  BIs T e w' b p v bs ∧ BFrame w w' b v v True
theorem BRead.kept {T e : TypeId} {w : World} {b : Nat} {p v : Value} {bs : List Value} (h : BIs T e w b p v bs) (w' : World) (ho : w'.os = w.os) (ht : w'.tape = w.tape) (hu : w'.output = w.output) (hs : w.heap.size ≤ w'.heap.size) (hk : ∀ k, k < w.heap.size → w'.heap[k]? = w.heap[k]?) : BRead T e w w' b p v bs := by
  obtain ⟨hb, hown, hne⟩ := h
  refine ⟨⟨by rw [hk b (Array.getElem?_eq_some_iff.1 hb).1]; exact hb, hown.kept (row := none) ⟨ho, ht, hu, hs, fun k h _ => hk k h⟩ (by cases hv : v.ownBlock <;> simp), hne⟩, ho, ht, hu, hs, fun k h _ _ => hk k h, fun g h => .inl h, fun _ => rfl⟩

set_option maxHeartbeats 2000000 in
set_option maxRecDepth 100000 in
theorem bld_String (L : Lays.n169 P ρ) (X : Builder.Extra P ρ) {w : World} {b : Nat} {p v : Value} (l : List UInt8) (h : BIs (ρ.t 72) (ρ.t 5) w b p v (Lib.byteCells l)) :
    Calls P (ρ.f 169) #[.pointer (some ⟨b, 0, none⟩)] w fun ed w' => ed = .returned (.string ⟨l.toArray⟩) ∧ BRead (ρ.t 72) (ρ.t 5) w w' b p v (Lib.byteCells l) := by
  have hI := h
  obtain ⟨hbk, hown, hne⟩ := h
  have hlt : b < w.heap.size := (Array.getElem?_eq_some_iff.1 hbk).1
  have hUS := Any.unsafeString_none L X
  have mixed := L.mixed
  have t72 := L.t72; have a72 := L.a72; have z72 := L.z72; have v72 := L.v72; have u72 := run_underlying L.t72
  have t70 := L.t70; have a70 := L.a70; have z70 := L.z70; have v70 := L.v70; have u70 := run_underlying L.t70
  have t37 := L.t37; have a37 := L.a37; have z37 := L.z37; have v37 := L.v37; have u37 := run_underlying L.t37
  have t127 := L.t127; have a127 := L.a127; have z127 := L.z127; have v127 := L.v127; have u127 := run_underlying L.t127
  have t3 := L.t3; have a3 := L.a3; have z3 := L.z3; have v3 := L.v3; have u3 := run_underlying L.t3
  have t9 := L.t9; have a9 := L.a9; have z9 := L.z9; have v9 := L.v9; have u9 := run_underlying L.t9
  have t5 := X.t5; have a5 := X.a5; have z5 := X.z5; have v5 := X.v5; have u5 := run_underlying X.t5
  have c1 : w.drew.cell? ⟨b, 1, none⟩ = some v := by
    have : w.drew.heap[b]? = some (.cells #[p, v] (ρ.t 72) (0, 0)) := hbk
    rw [Lib.cell_of_heap this]; rfl
  have c0 : w.cell? ⟨b, 1, none⟩ = some v := c1
  rw [Lib.byteCells_length] at hown
  rcases hown.2 with ⟨rfl, h0⟩ | ⟨g, cap, cur, fz, rfl, hbg, hg, hfz, hnc, hcm, hcs, htake⟩
  · obtain rfl : l = [] := List.eq_nil_of_length_eq_zero h0
    have hR : BRead (ρ.t 72) (ρ.t 5) w w.drew b p (.slice none 0 0) (Lib.byteCells []) := BRead.kept hI _ rfl rfl rfl (Nat.le_refl _) (fun _ _ => rfl)
    have hSD : (Builtin.unsafeSliceData_ #[(ρ.t 37)] (ρ.t 127) #[.slice none 0 0]).run P w.drew = .ok (.pointer none) w.drew := rfl
    clear hI hown
    go_enter L.f169, Body.n169_ntmps ρ
    go_wp2
    go_region_o
    all_goals (go_wp2; go_ret; exact ⟨rfl, hR⟩)
  · by_cases hl : l = []
    · subst hl
      by_cases hc0 : cap = 0
      · subst hc0
        have hSD : (Builtin.unsafeSliceData_ #[(ρ.t 37)] (ρ.t 127) #[.slice (some ⟨g, 0, none⟩) 0 0]).run P w.drew = .ok (.pointer (some ⟨w.drew.heap.size, 0, none⟩)) (w.drew.alloc (.view ⟨g, 0, none⟩ (ρ.t 5))) :=
          Lib.run_unsafeSliceData_zero w.drew _ _ (ρ.t 5) L.t127 ⟨g, 0, none⟩ 0 ((ρ.t 5), cur.size) (by have hg' : w.drew.heap[g]? = some (.cells cur (ρ.t 5) fz) := hg; simp [World.shape?, hg'])
        have c2 : (w.drew.alloc (.view ⟨g, 0, none⟩ (ρ.t 5))).cell? ⟨b, 1, none⟩ = some (.slice (some ⟨g, 0, none⟩) 0 0) := by
          have : (w.drew.alloc (.view ⟨g, 0, none⟩ (ρ.t 5))).heap[b]? = _ := (Lib.alloc_old w.drew _ b hlt).trans hbk
          rw [Lib.cell_of_heap this]; rfl
        have c3 : (w.alloc (.view ⟨g, 0, none⟩ (ρ.t 5))).drew.cell? ⟨b, 1, none⟩ = some (.slice (some ⟨g, 0, none⟩) 0 0) := c2
        have hR : BRead (ρ.t 72) (ρ.t 5) w (w.drew.alloc (.view ⟨g, 0, none⟩ (ρ.t 5))) b p (.slice (some ⟨g, 0, none⟩) 0 0) (Lib.byteCells []) := BRead.kept hI _ rfl rfl rfl (by simp) (fun k hk => Lib.alloc_old w.drew _ k hk)
        clear hI hown hg hfz hnc hcm hcs htake hlt hbk
        go_enter L.f169, Body.n169_ntmps ρ
        go_wp2
        go_region_o
        all_goals (go_wp2; go_ret; exact ⟨rfl, hR⟩)
      · have hSD : (Builtin.unsafeSliceData_ #[(ρ.t 37)] (ρ.t 127) #[.slice (some ⟨g, 0, none⟩) 0 cap]).run P w.drew = .ok (.pointer (some ⟨g, 0, none⟩)) w.drew :=
          Lib.run_unsafeSliceData_row _ _ _ _ _ _ hc0
        have hR : BRead (ρ.t 72) (ρ.t 5) w w.drew b p (.slice (some ⟨g, 0, none⟩) 0 cap) (Lib.byteCells []) := BRead.kept hI _ rfl rfl rfl (Nat.le_refl _) (fun _ _ => rfl)
        clear hI hown hc0 hg hfz hnc hcm hcs htake hbk
        go_enter L.f169, Body.n169_ntmps ρ
        go_wp2
        go_region_o
        all_goals (go_wp2; go_ret; exact ⟨rfl, hR⟩)
    · have hl0 : l.length ≠ 0 := by simpa using hl
      have hSD : (Builtin.unsafeSliceData_ #[(ρ.t 37)] (ρ.t 127) #[.slice (some ⟨g, 0, none⟩) l.length cap]).run P w.drew = .ok (.pointer (some ⟨g, 0, none⟩)) w.drew :=
        Lib.run_unsafeSliceData_row _ _ _ _ _ _ (by omega)
      have hUS2 : (Builtin.unsafeString_ #[(ρ.t 127), (ρ.t 3)] (ρ.t 9) #[.pointer (some ⟨g, 0, none⟩), .int .i64 l.length]).run P w.drew = .ok (.string ⟨l.toArray⟩) (w.drew.freeze ⟨g, 0, none⟩ l.length) := by
        refine Lib.run_unsafeString_row w.drew (ρ.t 127) (ρ.t 3) (ρ.t 9) (ρ.t 5) L.t127 X.cellsByte g cur.size (by have hg' : w.drew.heap[g]? = some (.cells cur (ρ.t 5) fz) := hg; simp [World.shape?, hg']) l hl (by omega) (by unfold maxLen at hcm; omega) ?_
        intro j x hx
        exact hown.cells (g := g) rfl j (.int .u8 x.toNat) (by simp [Lib.byteCells, hx])
      have hR : BRead (ρ.t 72) (ρ.t 5) w (w.drew.freeze ⟨g, 0, none⟩ l.length) b p (.slice (some ⟨g, 0, none⟩) l.length cap) (Lib.byteCells l) := by
        have hA : Lib.BuilderAtF (ρ.t 72) (ρ.t 5) 0 b p (Lib.byteCells l) w.drew := ⟨Nat.zero_le _, _, hbk, by rw [Lib.byteCells_length]; exact hown, hne⟩
        have hF := hA.froze (g := g) (cap := cap) (by rw [Lib.byteCells_length]; exact c1)
        rw [Lib.byteCells_length] at hF
        obtain ⟨_, v2, q1, q2, q3⟩ := hF
        have hbl : (w.drew.freeze ⟨g, 0, none⟩ l.length).heap[b]? = w.heap[b]? := by
          exact freeze_other _ _ _ _ _ (fun e => hne (by subst e; rfl))
        obtain rfl : v2 = .slice (some ⟨g, 0, none⟩) l.length cap := by
          rw [hbl, hbk] at q1
          simp at q1
          exact q1.symm
        obtain ⟨f1, f2, f3, f4⟩ := freeze_rest w.drew ⟨g, 0, none⟩ l.length
        exact ⟨⟨q1, q2, q3⟩, f1, f2, f3, Nat.le_of_eq f4.symm, fun k hk hkb hkv => freeze_other _ _ _ _ _ (fun e => hkv (by subst e; rfl)), fun g h => .inl h, fun _ => rfl⟩
      clear hI hown hUS hg hfz hnc hcm hcs htake hbk hl hl0
      go_enter L.f169, Body.n169_ntmps ρ
      go_wp2
      go_region_o
      all_goals (go_wp2; go_ret; exact ⟨rfl, hR⟩)
end Go.Sv
