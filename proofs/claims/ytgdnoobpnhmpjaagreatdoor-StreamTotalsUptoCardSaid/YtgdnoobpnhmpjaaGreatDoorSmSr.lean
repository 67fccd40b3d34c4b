/- Sections the other way round, by the program. -/
import Derived.Test.YtgdnoobpnhmpjaaGreatDoorSmRv
set_option linter.unusedVariables false
set_option linter.unusedSimpArgs false
set_option maxRecDepth 100000
namespace Go.Sv
open Go Go.RowKit Go.Proofs
def revA (l : List Sec) : AV := if (l.any fun s => s.f == 4) = true then .tup [.pv (.sl []), .pv (.iface 61 (.int .i64 1))] else .tup [secsA (l.map revS), .pv (.raw .nilIface)]
theorem revA_under (l : List Sec) : AV.under 0 (revA l) = true := by unfold revA; split <;> rfl
section
variable {w0 : Base} {σ : Store} {R : AV → Store → Prop}
abbrev srT (s : Sec) (a : AV) : List AV := [.pv (.int .i64 s.f), .pv (.str s.np), .pv (.str s.ns), .pv (.str s.op), .pv (.str s.os), .pv (.str s.ix), a, .pv (.str s.ed), .pv (.int .i64 s.ln)]
abbrev srS (out : List Sec) (s : Sec) (hs : List Hnk) : Store := [.arr 9 (out.map secP) false, .cells 31 (secC s), .cells 31 (srT s (.arr 3 hs.length 0 hs.length)), .arr 6 (hs.map hnkP) false]
theorem sr_in (Ld : Laid w0.w) {L : List Sec} (out : List Sec) (i : Nat) (s : Sec) (hs : SecOK s) (next : stream_Reverse.n50 (stream_Reverse.X w0 0) w0 0 R (srS out s (s.hs.map revH)) (.arr 0 out.length 0 out.length) (.ptr 2 0) (secsA L) L.length i) :
    ∀ (r : List Hnk) (k : Nat) (d : List Hnk), (s.hs.map hnkP).drop k = r.map hnkP → (∀ x ∈ r, HnkOK x) → d.length = k → k ≤ s.hs.length → d ++ r.map revH = s.hs.map revH →
    stream_Reverse.n37 (stream_Reverse.X w0 0) w0 0 R (srS out s d) (.arr 0 out.length 0 out.length) (.ptr 2 0) (secsA L) L.length i (.pv (.sl (s.hs.map hnkP))) s.hs.length k
  | [], k, d, hd, _, hk, hkl, he => by
    have hl := drop_end hd
    rw [List.length_map] at hl
    refine stream_Reverse.n37_in ?_
    rw [stream_Reverse.b38_eq, condB_decide, if_neg (by omega)]
    rw [List.map_nil, List.append_nil] at he
    subst he
    exact next
  | x :: r, k, d, hd, hall, hk, hkl, he => by
    obtain ⟨h1, h2, h3⟩ := drop_facts hd
    rw [List.length_map] at h3
    have hok := hall x (by simp)
    have hn := hs.n
    refine stream_Reverse.n37_in ?_
    rw [stream_Reverse.b38_eq, condB_decide, if_pos (by omega)]
    refine opt_in (idx_ro tab46 h1 rfl) ?_
    repeat ((with_reducible first | apply opt_in | apply wI | apply wT | apply wP | apply wS | apply wB); exact rfl)
    refine Reverse_spec Ld hok.rows ?_
    refine ⟨opt_in rfl rfl, ?_⟩
    refine opt2_in (v := .pv (.sl [hnkP (revH x)])) rfl ?_
    refine ⟨opt_in rfl rfl, ?_⟩
    refine opt2_in (row_append (es := 6) (xs := d.map hnkP) rfl rfl (List.length_map ..) rfl (roomy_of (B := 1048577) (by rw [List.length_map, hk]; show k + 1 ≤ _; omega) (by decide) (by decide))) ?_
    have e1 : d.map hnkP ++ [hnkP (revH x)] = (d ++ [revH x]).map hnkP := by rw [List.map_append]; rfl
    rw [e1, List.length_map]
    repeat ((with_reducible first | apply opt_in | apply wI | apply wT | apply wP | apply wS | apply wB); exact rfl)
    rw [wrap_next h3 (by omega)]
    refine stream_Reverse.n37_weak (EWeak.drop (τ := srS out s (d ++ [revH x])) glob0 (Nat.zero_le _) rfl rfl) ?_
    exact sr_in Ld out i s hs next r (k + 1) (d ++ [revH x]) h2 (fun y hy => hall y (List.mem_cons_of_mem _ hy)) (by rw [List.length_append, List.length_singleton, hk]) (by omega) (by rw [← he, List.map_cons, List.append_assoc]; rfl)
theorem sr_out (Ld : Laid w0.w) {L : List Sec} (hL : L.length ≤ 1048576) (hall : ∀ s ∈ L, SecOK s) : ∀ (r : List Sec) (k : Nat), L.drop k = r → k ≤ L.length → R (if (r.any fun s => s.f == 4) = true then .tup [.pv (.sl []), .pv (.iface 61 (.int .i64 1))] else .tup [secsA (L.map revS), .pv (.raw .nilIface)]) [] →
    stream_Reverse.n8 (stream_Reverse.X w0 0) w0 0 R [.arr 9 ((L.take k).map fun s => secP (revS s)) false] (.arr 0 k 0 k) (secsA L) L.length k
  | [], k, hd, hk, hR => by
    have hl : L.length ≤ k := List.drop_eq_nil_iff.1 hd
    have e : k = L.length := by omega
    subst e
    refine stream_Reverse.n8_in ?_
    rw [stream_Reverse.b9_eq, condB_decide, if_neg (by omega)]
    refine stream_Reverse.n52_in ?_
    rw [stream_Reverse.b52_eq, List.take_length]
    refine fin_seal (σ := []) (L := _) (r' := .tup [secsA (L.map revS), .pv (.raw .nilIface)]) glob0 rfl ?_ hR
    have e := seal_two (σ := [.arr 9 (L.map fun s => secP (revS s)) false]) (k := 0) (id := 0) (es := 9) (n := L.length) (xs := L.map fun s => secP (revS s)) (p := .raw .nilIface) rfl (List.length_map _) rfl
    refine e.trans ?_
    rw [show (L.map fun s => secP (revS s)) = (L.map revS).map secP by rw [List.map_map]; rfl]
  | s :: r, k, hd, hk, hR => by
    obtain ⟨h1, h2, h3⟩ := drop_facts hd
    have hsk := hall s (List.mem_of_getElem? h1)
    rw [List.any_cons] at hR
    refine stream_Reverse.n8_in ?_
    rw [stream_Reverse.b9_eq, condB_decide, if_pos (by omega)]
    refine opt_in (idx_ro tab31 (show (L.map secP)[k]? = some (secP s) by rw [List.getElem?_map, h1]; rfl) rfl) ?_
    repeat ((with_reducible first | apply opt_in | apply wI | apply wT | apply wP | apply wS | apply wB); exact rfl)
    rw [condB_ibeq]
    refine ite_split (fun g => ?_) (fun g => ?_)
    · repeat ((with_reducible first | apply opt_in | apply wI | apply wT | apply wP | apply wS | apply wB); exact rfl)
      have hb : (s.f == 4) = true := beq_iff_eq.2 g
      rw [hb, Bool.true_or, if_pos rfl] at hR
      exact fin_seal (σ := []) (L := _) glob0 rfl rfl hR
    · have hb : (s.f == 4) = false := beq_false_of_ne g
      rw [hb, Bool.false_or] at hR
      repeat ((with_reducible first | apply opt_in | apply wI | apply wT | apply wP | apply wS | apply wB); exact rfl)
      refine ⟨opt_in rfl rfl, ?_⟩
      repeat ((with_reducible first | apply opt_in | apply wI | apply wT | apply wP | apply wS | apply wB); exact rfl)
      rw [List.length_map]
      have htk : (L.take k).length = k := by rw [List.length_take]; omega
      have hmk : ((L.take k).map revS).length = k := by rw [List.length_map]; exact htk
      have em : (L.take k).map (fun s => secP (revS s)) = ((L.take k).map revS).map secP := by rw [List.map_map]; rfl
      rw [em]
      refine stream_Reverse.n37_weak (out' := .arr 0 k 0 k) (t' := .ptr 2 0) (t10' := secsA L) (t11' := L.length) (t12' := k) (t29' := .pv (.sl (s.hs.map hnkP))) (t30' := s.hs.length) (t31' := (0 : Nat)) (EWeak.trans (EWeak.cellNil (id := 2) (es := 6) (pre := [.pv (.int .i64 s.f), .pv (.str s.np), .pv (.str s.ns), .pv (.str s.op), .pv (.str s.os), .pv (.str s.ix)]) (post := [.pv (.str s.ed), .pv (.int .i64 s.ln)]) rfl) (EWeak.remap (τ := srS ((L.take k).map revS) s []) (fun g => rfl) [0, 1, 2, 3] rfl (by decide) (fun i hi => absurd hi (Nat.not_lt_zero i)) (Nat.zero_le _) ⟨rfl, rfl, rfl, rfl, trivial⟩ rfl rfl rfl)) ?_
      have := sr_in (w0 := w0) (R := R) Ld (L := L) ((L.take k).map revS) k s hsk ?_ s.hs 0 [] rfl hsk.h rfl (Nat.zero_le _) rfl
      · rw [hmk] at this
        exact this
      · rw [hmk]
        refine stream_Reverse.n50_in ?_
        rw [stream_Reverse.b50_eq]
        repeat ((with_reducible first | apply opt_in | apply wI | apply wT | apply wP | apply wS | apply wB); exact rfl)
        refine opt2_in (lit_row (ei := ti31) (pre := [.int .i64 s.f, .str s.np, .str s.ns, .str s.op, .str s.os, .str s.ix]) (post := [.str s.ed, .int .i64 s.ln]) (id := 3) (es := 6) (xs := (s.hs.map revH).map hnkP) rfl (List.length_map ..) rfl (by decide) (q := secP (revS s)) rfl) ?_
        refine opt2_in (row_append (es := 9) (xs := ((L.take k).map revS).map secP) rfl rfl (by rw [List.length_map]; exact hmk) rfl (roomy_of (B := 1048577) (by rw [List.length_map, hmk]; show k + 1 ≤ _; omega) (by decide) (by decide))) ?_
        have e1 : ((L.take k).map revS).map secP ++ [secP (revS s)] = (L.take (k + 1)).map (fun s => secP (revS s)) := by rw [← em, List.take_add_one, h1, List.map_append]; rfl
        have e2 : ((L.take (k + 1)).map (fun s => secP (revS s))).length = k + 1 := by rw [List.length_map, List.length_take]; omega
        refine stream_Reverse.n51_in ?_
        rw [stream_Reverse.b51_eq, wrap_next h3 (by omega), e1, e2]
        refine stream_Reverse.n8_weak (EWeak.drop (τ := [.arr 9 ((L.take (k + 1)).map fun s => secP (revS s)) false]) glob0 (Nat.zero_le _) rfl rfl) ?_
        exact sr_out Ld hL hall r (k + 1) h2 (by omega) hR
theorem SReverse_spec (Ld : Laid w0.w) {L : List Sec} (hL : L.length ≤ 1048576) (hall : ∀ s ∈ L, SecOK s) (hR : R (revA L) σ) : SCalls (cx w0) stream_Reverse.id [secsA L] σ R := by
  refine SCalls.alone Ld rfl (fun w1 L1 => ?_) (revA_under L) hR
  refine stream_Reverse.calls ?_
  rw [stream_Reverse.b0_eq]
  repeat ((with_reducible first | apply opt_in | apply wI | apply wT | apply wP | apply wS | apply wB); exact rfl)
  rw [List.length_map]
  refine stream_Reverse.n8_weak (out' := .arr 0 0 0 0) (t10' := secsA L) (t11' := L.length) (t12' := (0 : Nat)) (τ := [.arr 9 [] false]) (EWeak.nil (t := 4) (es := 9) rfl rfl) ?_
  exact sr_out L1 hL hall L 0 rfl (Nat.zero_le _) rfl
end
end Go.Sv
