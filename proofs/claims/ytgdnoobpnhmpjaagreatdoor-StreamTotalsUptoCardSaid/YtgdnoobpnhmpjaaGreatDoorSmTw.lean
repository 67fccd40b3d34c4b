/- Sections with memory of their own. -/
import Derived.Test.YtgdnoobpnhmpjaaGreatDoorSmA
import Derived.Test.YtgdnoobpnhmpjaaGreatDoorSmE
import Derived.Test.YtgdnoobpnhmpjaaGreatDoorSvGc
set_option linter.unusedVariables false
set_option linter.unusedSimpArgs false
set_option maxRecDepth 100000
namespace Go.Sv
open Go Go.RowKit Go.Proofs
theorem roomy_of {n b B : Nat} (h : n ≤ B) (h1 : B ≤ 140737488355328) (h2 : B * b ≤ 140737488355328) : roomy n b := ⟨Nat.le_trans h h1, Nat.le_trans (Nat.mul_le_mul_right _ h) h2⟩
theorem row_appendX {σ : Store} {es : Nat} {xs ys : List PV} {x : AV} {id k : Nat} {ei : TI} {fz : Bool} (ho : σ[id]? = some (.arr es xs fz)) (he : es = ei.size) (hk : xs.length = k) (hx : elems σ x = some ys) (hsz : sized ei.size ys = true) (hroom : roomy (xs.length + ys.length) ei.bytes) :
    aAppend σ ei (.arr id k 0 k) x = some (.arr id (xs ++ ys).length 0 (xs ++ ys).length, σ.set id (.arr es (xs ++ ys) fz)) := by
  subst hk
  unfold aAppend
  simp only [hx, hsz, if_true, ho]
  rw [if_pos (by exact ⟨trivial, trivial, trivial, he, hroom⟩), List.length_append]
theorem row_append {σ : Store} {es : Nat} {xs ys : List PV} {id k : Nat} {ei : TI} {fz : Bool} (ho : σ[id]? = some (.arr es xs fz)) (he : es = ei.size) (hk : xs.length = k) (hsz : sized ei.size ys = true) (hroom : roomy (xs.length + ys.length) ei.bytes) :
    aAppend σ ei (.arr id k 0 k) (.pv (.sl ys)) = some (.arr id (xs ++ ys).length 0 (xs ++ ys).length, σ.set id (.arr es (xs ++ ys) fz)) := row_appendX ho he hk rfl hsz hroom
theorem elems_row {σ : Store} {id es k : Nat} {xs : List PV} {fz : Bool} (ho : σ[id]? = some (.arr es xs fz)) (hk : xs.length = k) : elems σ (.arr id k 0 k) = some xs := by
  subst hk
  simp [elems, ho]
theorem frzCells_pv (σ : Store) : ∀ ps : List PV, frzCells σ (ps.map .pv) = some (ps, σ)
  | [] => rfl
  | p :: r => by
    rw [List.map_cons, frzCells]
    simp only [frz1, frzCells_pv σ r]
theorem frzCells_row {σ : Store} {id es k : Nat} {xs : List PV} {fz : Bool} (ho : σ[id]? = some (.arr es xs fz)) (hk : xs.length = k) (post : List PV) : ∀ pre : List PV, frzCells σ (pre.map AV.pv ++ .arr id k 0 k :: post.map AV.pv) = some (pre ++ .sl xs :: post, σ.set id (.arr es xs true))
  | [] => by
    rw [List.map_nil, List.nil_append, frzCells]
    simp only [frz1, ho]
    rw [if_pos (by exact ⟨hk, trivial, trivial⟩)]
    simp only [frzCells_pv, List.nil_append]
  | p :: r => by
    rw [List.map_cons, List.cons_append, frzCells]
    simp only [frz1, frzCells_row ho hk post r, List.cons_append]
theorem lit_row {σ : Store} {ei : TI} {pre post : List PV} {id es k : Nat} {xs : List PV} {fz : Bool} (ho : σ[id]? = some (.arr es xs fz)) (hk : xs.length = k) (hn : (pre ++ PV.sl xs :: post).length = ei.size) (hb : 1 * ei.size ≤ 16777216) {q : PV} (hq : q = .agg (pre ++ .sl xs :: post)) :
    aBuildSlice σ ei false 1 [(0, .agg (pre.map AV.pv ++ .arr id k 0 k :: post.map AV.pv))] = some (.pv (.sl [q]), σ.set id (.arr es xs true)) := by
  subst hq
  have h1 : aBuildSlice0 σ ei false 1 [(0, .agg (pre.map AV.pv ++ .arr id k 0 k :: post.map AV.pv))] = none := by
    simp only [aBuildSlice0, inOrder, if_true, allPv]
  have h2 : frzParts σ [(0, .agg (pre.map AV.pv ++ .arr id k 0 k :: post.map AV.pv))] = some ([(0, .pv (.agg (pre ++ .sl xs :: post)))], σ.set id (.arr es xs true)) := by
    simp only [frzParts, frzV, frzCells_row ho hk post pre]
  have h3 : aBuildSlice0 (σ.set id (.arr es xs true)) ei false 1 [(0, .pv (.agg (pre ++ .sl xs :: post)))] = some (.pv (.sl [.agg (pre ++ .sl xs :: post)]), σ.set id (.arr es xs true)) := by
    simp only [aBuildSlice0, inOrder, if_true, allPv, List.length_singleton]
    rw [if_pos]
    · rfl
    · refine ⟨trivial, ?_, hb, ?_⟩
      · simp only [sized, List.all_cons, List.all_nil, Bool.and_true, PV.cells, beq_iff_eq]
        exact hn
      · rw [← hn, List.length_append, List.length_cons]; omega
  unfold aBuildSlice
  rw [h1]
  simp only [h2, h3]
theorem allPv_mk : ∀ ps : List PV, allPv (ps.map AV.pv) = some ps
  | [] => rfl
  | p :: r => by rw [List.map_cons, allPv, allPv_mk r]
theorem sealVs_pv (k : Nat) (σ : Store) : ∀ ps : List PV, sealVs k σ (ps.map AV.pv) = some (ps.map AV.pv)
  | [] => rfl
  | p :: r => by
    rw [List.map_cons, sealVs, sealVs_pv k σ r]
    rfl
theorem sealVs_row {σ : Store} {k id es n : Nat} {xs : List PV} {fz : Bool} (ho : σ[id]? = some (.arr es xs fz)) (hn : xs.length = n) (hid : Nat.ble k id = true) (post : List PV) : ∀ pre : List PV, sealVs k σ (pre.map AV.pv ++ .arr id n 0 n :: post.map AV.pv) = some ((pre ++ .sl xs :: post).map AV.pv)
  | [] => by
    subst hn
    rw [List.map_nil, List.nil_append, sealVs, sealVs_pv]
    have : sealV k σ (.arr id xs.length 0 xs.length) = some (.pv (.sl xs)) := by
      simp only [sealV, hid, ho]
      rw [if_pos ⟨trivial, by omega⟩, List.drop_zero, List.take_of_length_le (Nat.le_refl _)]
    rw [this]
    rfl
  | p :: r => by
    rw [List.map_cons, List.cons_append, sealVs, sealVs_row ho hn hid post r]
    rfl
theorem seal_arr {σ : Store} {k id es n : Nat} {xs : List PV} {fz : Bool} (ho : σ[id]? = some (.arr es xs fz)) (hn : xs.length = n) (hid : Nat.ble k id = true) : sealE k σ (.arr id n 0 n) = some (.pv (.sl xs)) := by
  subst hn
  simp only [sealE, sealV, hid, ho]
  rw [if_pos ⟨trivial, by omega⟩, List.drop_zero, List.take_of_length_le (Nat.le_refl _)]
theorem seal_two {σ : Store} {k id es n : Nat} {xs : List PV} {fz : Bool} {p : PV} (ho : σ[id]? = some (.arr es xs fz)) (hn : xs.length = n) (hid : Nat.ble k id = true) : sealR k σ (.tup [.arr id n 0 n, .pv p]) = some (.tup [.pv (.sl xs), .pv p]) := by
  simp only [sealR, sealEs, seal_arr ho hn hid]
  rfl
theorem seal_row {σ : Store} {k id es n : Nat} {xs : List PV} {fz : Bool} {pre post : List PV} (ho : σ[id]? = some (.arr es xs fz)) (hn : xs.length = n) (hid : Nat.ble k id = true) {q : PV} (hq : q = .agg (pre ++ .sl xs :: post)) : sealR k σ (.agg (pre.map AV.pv ++ .arr id n 0 n :: post.map AV.pv)) = some (.pv q) := by
  subst hq
  simp only [sealR, sealE, sealVs_row ho hn hid post pre, Option.map_some, mkAgg, allPv_mk]
structure SecOK (s : Sec) : Prop where
  n : s.hs.length ≤ 1048576
  h : ∀ x ∈ s.hs, HnkOK x
section
variable {w0 : Base} {σ : Store} {R : AV → Store → Prop}
theorem sized_rows (l : List Row) : sized 2 (l.map rowP) = true := by
  simp only [sized, List.all_eq_true, List.mem_map]
  rintro z ⟨r, _, rfl⟩
  rfl
abbrev secC (s : Sec) : List AV := [.pv (.int .i64 s.f), .pv (.str s.op), .pv (.str s.os), .pv (.str s.np), .pv (.str s.ns), .pv (.str s.ix), .pv (.sl (s.hs.map hnkP)), .pv (.str s.ed), .pv (.int .i64 s.ln)]
theorem nil_app_rows {σ : Store} {l : List Row} (h : l.length ≤ 1048576) : aAppendB true σ ti79 .nilsl (.pv (.sl (l.map rowP))) = some (.pv (.sl (l.map rowP)), σ) := by
  show (if sized 2 (l.map rowP) = true ∧ roomy (l.map rowP).length _ then some (AV.pv (.sl (l.map rowP)), σ) else none) = _
  rw [if_pos ⟨sized_rows l, roomy_of (B := 1048576) (by rw [List.length_map]; exact h) (by decide) (by decide)⟩]
theorem tw_in {L : List Sec} (out : List Sec) (i : Nat) (s : Sec) (hs : SecOK s) (next : selvagelaw28_twins.n42 (selvagelaw28_twins.X w0 0) w0 0 R [.arr 9 (out.map secP) false, .cells 31 (secC s), .arr 6 (s.hs.map hnkP) false] (secsA L) (.arr 0 out.length 0 out.length) i (.ptr 1 0) (.arr 2 s.hs.length 0 s.hs.length)) :
    ∀ (r : List Hnk) (k : Nat), (s.hs.map hnkP).drop k = r.map hnkP → k ≤ s.hs.length →
    selvagelaw28_twins.n25 (selvagelaw28_twins.X w0 0) w0 0 R [.arr 9 (out.map secP) false, .cells 31 (secC s), .arr 6 ((s.hs.take k).map hnkP) false] (secsA L) (.arr 0 out.length 0 out.length) i (.ptr 1 0) (.arr 2 k 0 k) k
  | [], k, hd, hk => by
    have hl := drop_end hd
    rw [List.length_map] at hl
    refine selvagelaw28_twins.n25_in ?_
    rw [selvagelaw28_twins.b26_eq]
    repeat ((with_reducible first | apply opt_in | apply wI | apply wT | apply wP | apply wS | apply wB); exact rfl)
    rw [List.length_map, condB_decide, if_neg (by omega)]
    have e : k = s.hs.length := by omega
    subst e
    rw [List.take_length]
    exact next
  | x :: r, k, hd, hk => by
    obtain ⟨h1, h2, h3⟩ := drop_facts hd
    rw [List.length_map] at h3
    have hx : s.hs[k]? = some s.hs[k] := List.getElem?_eq_getElem h3
    have ex : hnkP s.hs[k] = hnkP x := by
      rw [List.getElem?_map, hx] at h1
      simpa using h1
    have hok := hs.h s.hs[k] (List.getElem_mem h3)
    have hn := hs.n
    rw [List.getElem?_map, hx, Option.map_some] at h1
    generalize hgen : s.hs[k] = y at *
    refine selvagelaw28_twins.n25_in ?_
    rw [selvagelaw28_twins.b26_eq]
    repeat ((with_reducible first | apply opt_in | apply wI | apply wT | apply wP | apply wS | apply wB); exact rfl)
    rw [List.length_map, condB_decide, if_pos (by omega)]
    repeat ((with_reducible first | apply opt_in | apply wI | apply wT | apply wP | apply wS | apply wB); exact rfl)
    refine opt_in (idx_ro tab46 (show (s.hs.map hnkP)[k]? = some (hnkP y) by rw [List.getElem?_map, hx]; rfl) rfl) ?_
    repeat ((with_reducible first | apply opt_in | apply wI | apply wT | apply wP | apply wS | apply wB); exact rfl)
    refine opt2_in (nil_app_rows hok.rows) ?_
    repeat ((with_reducible first | apply opt_in | apply wI | apply wT | apply wP | apply wS | apply wB); exact rfl)
    refine opt2_in (v := .pv (.sl [hnkP y])) rfl ?_
    have hlt : ((s.hs.take k).map hnkP).length = k := by rw [List.length_map, List.length_take]; omega
    refine opt2_in (row_append (es := 6) (xs := (s.hs.take k).map hnkP) rfl rfl hlt rfl (roomy_of (B := 1048577) (by rw [hlt]; show k + 1 ≤ _; omega) (by decide) (by decide))) ?_
    have e1 : (s.hs.take k).map hnkP ++ [hnkP y] = (s.hs.take (k + 1)).map hnkP := by rw [List.take_add_one, hx, List.map_append]; rfl
    have e2 : ((s.hs.take (k + 1)).map hnkP).length = k + 1 := by rw [List.length_map, List.length_take]; omega
    rw [e1, e2, wrap_next h3 (by omega)]
    refine selvagelaw28_twins.n25_weak (EWeak.drop (τ := [.arr 9 (out.map secP) false, .cells 31 (secC s), .arr 6 ((s.hs.take (k + 1)).map hnkP) false]) glob0 (Nat.zero_le _) rfl rfl) ?_
    exact tw_in out i s hs next r (k + 1) h2 (by omega)
theorem tw_out {L : List Sec} (hL : L.length ≤ 1048576) (hall : ∀ s ∈ L, SecOK s) : ∀ (r : List Sec) (k : Nat), L.drop k = r → k ≤ L.length → R (secsA L) [] →
    selvagelaw28_twins.n8 (selvagelaw28_twins.X w0 0) w0 0 R [.arr 9 ((L.take k).map secP) false] (secsA L) (.arr 0 k 0 k) k
  | [], k, hd, hk, hR => by
    have hl : L.length ≤ k := List.drop_eq_nil_iff.1 hd
    have e : k = L.length := by omega
    subst e
    refine selvagelaw28_twins.n8_in ?_
    rw [selvagelaw28_twins.b9_eq]
    repeat ((with_reducible first | apply opt_in | apply wI | apply wT | apply wP | apply wS | apply wB); exact rfl)
    rw [List.length_map, condB_decide, if_neg (by omega)]
    refine selvagelaw28_twins.n46_in ?_
    rw [selvagelaw28_twins.b46_eq, List.take_length]
    refine fin_seal (σ := []) (L := _) (r' := secsA L) glob0 rfl ?_ hR
    show (if (L.map secP).length = L.length ∧ 0 + L.length ≤ L.length then some (AV.pv (.sl (((L.map secP).drop 0).take L.length))) else none) = _
    rw [if_pos ⟨List.length_map _, by omega⟩]
    simp [List.take_of_length_le]
  | s :: r, k, hd, hk, hR => by
    obtain ⟨h1, h2, h3⟩ := drop_facts hd
    have hsk := hall s (List.mem_of_getElem? h1)
    refine selvagelaw28_twins.n8_in ?_
    rw [selvagelaw28_twins.b9_eq]
    repeat ((with_reducible first | apply opt_in | apply wI | apply wT | apply wP | apply wS | apply wB); exact rfl)
    rw [List.length_map, condB_decide, if_pos (by omega)]
    refine opt_in (idx_ro tab31 (show (L.map secP)[k]? = some (secP s) by rw [List.getElem?_map, h1]; rfl) rfl) ?_
    repeat ((with_reducible first | apply opt_in | apply wI | apply wT | apply wP | apply wS | apply wB); exact rfl)
    have hlt : ((L.take k).map secP).length = k := by rw [List.length_map, List.length_take]; omega
    have htk : (L.take k).length = k := by rw [List.length_take]; omega
    refine selvagelaw28_twins.n25_weak (h_' := .arr 2 0 0 0) (EWeak.nil (t := 6) (es := 6) rfl rfl) ?_
    have := tw_in (w0 := w0) (R := R) (L := L) (L.take k) k s hsk ?_ s.hs 0 rfl (Nat.zero_le _)
    · rw [htk] at this
      exact this
    · rw [htk]
      refine selvagelaw28_twins.n42_in ?_
      rw [selvagelaw28_twins.b42_eq]
      repeat ((with_reducible first | apply opt_in | apply wI | apply wT | apply wP | apply wS | apply wB); exact rfl)
      refine opt2_in (lit_row (ei := ti31) (pre := [.int .i64 s.f, .str s.op, .str s.os, .str s.np, .str s.ns, .str s.ix]) (post := [.str s.ed, .int .i64 s.ln]) (id := 2) (es := 6) (xs := s.hs.map hnkP) rfl (List.length_map ..) rfl (by decide) (q := secP s) rfl) ?_
      refine opt2_in (row_append (es := 9) (xs := (L.take k).map secP) rfl rfl hlt rfl (roomy_of (B := 1048577) (by rw [hlt]; show k + 1 ≤ _; omega) (by decide) (by decide))) ?_
      have e1 : (L.take k).map secP ++ [secP s] = (L.take (k + 1)).map secP := by rw [List.take_add_one, h1, List.map_append]; rfl
      have e2 : ((L.take (k + 1)).map secP).length = k + 1 := by rw [List.length_map, List.length_take]; omega
      refine selvagelaw28_twins.n45_in ?_
      rw [selvagelaw28_twins.b45_eq, wrap_next h3 (by omega), e1, e2]
      refine selvagelaw28_twins.n8_weak (EWeak.drop (τ := [.arr 9 ((L.take (k + 1)).map secP) false]) glob0 (Nat.zero_le _) rfl rfl) ?_
      exact tw_out hL hall r (k + 1) h2 (by omega) hR
theorem twins_spec (Ld : Laid w0.w) {L : List Sec} (hL : L.length ≤ 1048576) (hall : ∀ s ∈ L, SecOK s) (hR : R (secsA L) σ) : SCalls (cx w0) selvagelaw28_twins.id [secsA L] σ R := by
  refine SCalls.alone Ld rfl (fun w1 L1 => ?_) rfl hR
  refine selvagelaw28_twins.calls ?_
  rw [selvagelaw28_twins.b0_eq]
  refine selvagelaw28_twins.n8_weak (l_' := secsA L) (out' := .arr 0 0 0 0) (i' := (0 : Nat)) (τ := [.arr 9 [] false]) (EWeak.nil (t := 3) (es := 9) rfl rfl) ?_
  exact tw_out hL hall L 0 rfl (Nat.zero_le _) rfl
end
end Go.Sv
