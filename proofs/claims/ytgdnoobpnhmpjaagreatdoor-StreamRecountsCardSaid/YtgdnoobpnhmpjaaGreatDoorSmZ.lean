/- A text with its counts put right: the document's side. -/
import Derived.Test.YtgdnoobpnhmpjaaGreatDoorSmY
set_option linter.unusedVariables false
set_option linter.unusedSimpArgs false
set_option maxRecDepth 100000
namespace Go.Sv
open Go Go.RowKit Go.Proofs
section
variable {w0 : Base} {P : AV → Prop} {σ : Store}
theorem elems_ln {σ : Store} {s : Ln} : elems σ (.pv (.str s)) = some (bytesPV s) := rfl
theorem join_loop {L : List Ln} (hl : L.length ≤ 4194304) (hb : L.flatten.length ≤ 1099511627776) : ∀ (q i : Nat) (acc : Ln), i + q = L.length → acc ++ (L.drop i).flatten = L.flatten →
    selvageref01_Join.n8 (selvageref01_Join.X w0 0) w0 0 (fun r _ => r = .pv (.str L.flatten)) [.arr 1 (bytesPV acc) false] (.pv (lnsP L)) (.arr 0 acc.length 0 acc.length) i
  | 0, i, acc, hi, he => by
    rw [List.drop_eq_nil_of_le (by omega)] at he
    simp only [List.flatten_nil, List.append_nil] at he
    refine selvageref01_Join.n8_in ?_
    rw [selvageref01_Join.b9_eq]
    repeat ((with_reducible first | apply opt_in | apply wI | apply wT | apply wP | apply wS | apply wB); exact rfl)
    rw [List.length_map, condB_decide, if_neg (by omega)]
    refine selvageref01_Join.n19_in ?_
    rw [selvageref01_Join.b19_eq]
    refine opt2_in (conv_bytes rfl) (isS_in ?_)
    rw [he]
    exact fin_cut (σ := []) (L := _) glob0 rfl rfl rfl
  | q + 1, i, acc, hi, he => by
    have hlt : i < L.length := by omega
    have gl : L[i]? = some L[i] := List.getElem?_eq_getElem hlt
    have hd : L.drop i = L[i] :: L.drop (i + 1) := List.drop_eq_getElem_cons hlt
    generalize L[i] = l at gl hd
    rw [hd, List.flatten_cons, ← List.append_assoc] at he
    have hlen := congrArg List.length he
    rw [List.length_append, List.length_append] at hlen
    refine selvageref01_Join.n8_in ?_
    rw [selvageref01_Join.b9_eq]
    repeat ((with_reducible first | apply opt_in | apply wI | apply wT | apply wP | apply wS | apply wB); exact rfl)
    rw [List.length_map, condB_decide, if_pos (by omega)]
    refine opt_in (idx_ro tab9 (show (L.map PV.str)[i]? = some (PV.str l) by rw [List.getElem?_map, gl]; rfl) rfl) ?_
    repeat ((with_reducible first | apply opt_in | apply wI | apply wT | apply wP | apply wS | apply wB); exact rfl)
    refine opt2_in (append_bytes (id := 0) (s := l) elems_ln rfl (by omega)) ?_
    rw [wrap_next hlt (by omega)]
    exact join_loop hl hb q (i + 1) (acc ++ l) (by omega) he
theorem rJoin_spec {R : AV → Store → Prop} (Ld : Laid w0.w) {L : List Ln} (hl : L.length ≤ 4194304) (hb : L.flatten.length ≤ 1099511627776) (hR : R (.pv (.str L.flatten)) σ) : SCalls (cx w0) selvageref01_Join.id [.pv (lnsP L)] σ R := by
  refine SCalls.alone Ld rfl (fun w1 L1 => ?_) rfl hR
  refine selvageref01_Join.calls ?_
  rw [selvageref01_Join.b0_eq]
  refine selvageref01_Join.n8_weak (l_' := .pv (lnsP L)) (b' := .arr 0 0 0 0) (i' := (0 : Nat)) (τ := [.arr 1 (bytesPV []) false]) (EWeak.nil (t := 3) (es := 1) rfl rfl) ?_
  exact join_loop hl hb L.length 0 [] (Nat.zero_add _) rfl
theorem bare_end (l : Ln) : l.drop (bareB l).length = if wholeB l = true then [10] else [] := by
  unfold bareB
  cases hw : wholeB l with
  | true =>
    rw [if_pos rfl, if_pos rfl]
    rcases List.eq_nil_or_concat l with rfl | ⟨p, c, rfl⟩
    · cases hw
    · rw [List.concat_eq_append] at hw ⊢
      have hc : c = 10 := by
        unfold wholeB at hw
        simpa using hw
      subst hc
      simp
  | false =>
    rw [if_neg (by decide), if_neg (by decide)]
    simp
theorem first_at {l : Ln} {x : Nat × Nat × Ln} (h : firstF l = some x) : Lib.hasPrefix l oldM = false := by
  cases hp : Lib.hasPrefix l oldM with
  | false => rfl
  | true =>
    exfalso
    unfold firstF at h
    split at h
    · cases h
    · rename_i s1 e1
      unfold behF at e1
      split at e1
      · rename_i g
        unfold Lib.hasPrefix at g hp
        rw [List.isPrefixOf_iff_prefix] at g hp
        obtain ⟨u, hu⟩ := g
        obtain ⟨v, hv⟩ := hp
        have h0 : (bareB l)[0]? = some 64 := by rw [← hu]; rfl
        have h1 : l[0]? = some 45 := by rw [← hv]; rfl
        have h2 : (bareB l)[0]? = l[0]? := by
          unfold bareB at h0 ⊢
          split
          · rename_i hw
            rw [if_pos hw, List.getElem?_dropLast] at h0
            rw [List.getElem?_dropLast]
            split at h0
            · rename_i hlt; rw [if_pos hlt]
            · cases h0
          · rfl
        rw [h2, h1] at h0
        cases h0
      · cases e1
theorem app_line {acc s : Ln} (h : acc.length + s.length ≤ 140737488355328) : aAppend [.arr 1 (bytesPV acc) false] ti5 (.arr 0 acc.length 0 acc.length) (.pv (.str s)) = some (.arr 0 (acc ++ s).length 0 (acc ++ s).length, [.arr 1 (bytesPV (acc ++ s)) false]) := append_bytes (id := 0) (s := s) elems_ln rfl h
abbrev rr20 (w0 : Base) (P : AV → Prop) (L : List Ln) (acc : Ln) (b : Bool) (i : Nat) : Prop := selvageref28_Recount.n20 (selvageref28_Recount.X w0 0) w0 0 (fun r _ => P r) [.arr 1 (bytesPV acc) false] (.pv (lnsP L)) (.arr 0 acc.length 0 acc.length) b i
theorem rrec_loop (Ld : Laid w0.w) {L : List Ln} (hl : L.length ≤ 4194304) (hne : ∀ l ∈ L, l ≠ []) (hlen : ∀ l ∈ L, l.length ≤ 4194304) (hfl : L.flatten.length ≤ 4194304) :
    ∀ (q : Nat) (b : Bool) (i : Nat) (acc : Ln), i ≤ L.length → L.length - i < q → acc.length + (L.drop i).flatten.length ≤ 1099511627776 + i * 128 → P (.tup [.pv (.str (acc ++ (recF q b (L.drop i)).flatten)), .pv (.int .i64 0)]) → rr20 w0 P L acc b i
  | 0, b, i, acc, hi, hq, _, _ => absurd hq (Nat.not_lt_zero _)
  | q + 1, b, i, acc, hi, hq, hacc, hP => by
    refine selvageref28_Recount.n20_in ?_
    rw [selvageref28_Recount.b21_eq]
    repeat ((with_reducible first | apply opt_in | apply wI | apply wT | apply wP | apply wS | apply wB); exact rfl)
    rw [List.length_map, condB_decide]
    refine ite_split (fun g => ?_) (fun g => ?_)
    · have hlt : i < L.length := by omega
      have gl : L[i]? = some L[i] := List.getElem?_eq_getElem hlt
      have hd : L.drop i = L[i] :: L.drop (i + 1) := List.drop_eq_getElem_cons hlt
      have hst := headF_st L i
      generalize L[i] = l at gl hd
      have hll : l.length ≤ 4194304 := hlen l (List.mem_of_getElem? gl)
      have gi : (L.map PV.str)[i]? = some (PV.str l) := by rw [List.getElem?_map, gl]; rfl
      have hfd := congrArg (fun z => (List.flatten z).length) hd
      simp only [List.flatten_cons, List.length_append] at hfd
      have plain : headF (L.drop i) = false → (if b = true then firstF l else none) = none → selvageref28_Recount.n64 (selvageref28_Recount.X w0 0) w0 0 (fun r _ => P r) [.arr 1 (bytesPV acc) false] (.pv (lnsP L)) (.arr 0 acc.length 0 acc.length) false i := by
        intro h e
        refine selvageref28_Recount.n64_in ?_
        rw [selvageref28_Recount.b64_eq]
        refine opt_in (idx_ro tab9 gi rfl) ?_
        repeat ((with_reducible first | apply opt_in | apply wI | apply wT | apply wP | apply wS | apply wB); exact rfl)
        refine opt2_in (app_line (by omega)) ?_
        rw [wrap_next hlt (by omega)]
        refine rrec_loop Ld hl hne hlen hfl q false (i + 1) (acc ++ l) (by omega) (by omega) (by rw [List.length_append]; omega) ?_
        rw [hd] at h hP
        rw [recF_no h e] at hP
        simpa using hP
      have header : headF (L.drop i) = true → selvageref28_Recount.n57 (selvageref28_Recount.X w0 0) w0 0 (fun r _ => P r) [.arr 1 (bytesPV acc) false] (.pv (lnsP L)) (.arr 0 acc.length 0 acc.length) false i true := by
        intro h
        obtain ⟨m, r', hm⟩ : ∃ m r', L.drop (i + 1) = m :: r' := by
          rw [hd] at h
          cases e : L.drop (i + 1) with
          | nil => rw [e] at h; cases h
          | cons m r' => exact ⟨m, r', rfl⟩
        have hl2 := congrArg List.length hm
        rw [List.length_drop, List.length_cons] at hl2
        have hm0 : L[i + 1]? = some m := by
          have : (L.drop (i + 1))[0]? = some m := by rw [hm]; rfl
          rw [List.getElem?_drop] at this
          exact this
        have gm : (L.map PV.str)[i + 1]? = some (PV.str m) := by rw [List.getElem?_map, hm0]; rfl
        have hml : m.length ≤ 4194304 := hlen m (List.mem_of_getElem? hm0)
        have hd2 : L.drop (i + 2) = r' := by
          rw [show i + 2 = (i + 1) + 1 by omega, ← List.drop_drop, hm]; rfl
        have hfm := congrArg (fun z => (List.flatten z).length) hm
        simp only [List.flatten_cons, List.length_append] at hfm
        refine selvageref28_Recount.n57_in ?_
        rw [selvageref28_Recount.b57_eq, condB_true']
        refine opt_in (idx_ro tab9 gi rfl) ?_
        repeat ((with_reducible first | apply opt_in | apply wI | apply wT | apply wP | apply wS | apply wB); exact rfl)
        refine opt2_in (app_line (by omega)) ?_
        rw [wrap_next hlt (by omega)]
        refine selvageref28_Recount.n64_in ?_
        rw [selvageref28_Recount.b64_eq]
        refine opt_in (idx_ro tab9 gm rfl) ?_
        repeat ((with_reducible first | apply opt_in | apply wI | apply wT | apply wP | apply wS | apply wB); exact rfl)
        refine opt2_in (app_line (by rw [List.length_append]; omega)) ?_
        rw [wrap_next (n := L.length) (by omega) (by omega)]
        refine rrec_loop Ld hl hne hlen hfl q true (i + 2) (acc ++ l ++ m) (by omega) (by omega) (by rw [List.length_append, List.length_append, hd2]; omega) ?_
        rw [hd] at h hP
        rw [hm] at h hP
        rw [recF_head h] at hP
        rw [hd2]
        simpa using hP
      have look : (if b = true then firstF l else none) = none → ∀ (x y : Int) (u : Ln), selvageref28_Recount.n33 (selvageref28_Recount.X w0 0) w0 0 (fun r _ => P r) [.arr 1 (bytesPV acc) false] (.pv (lnsP L)) (.arr 0 acc.length 0 acc.length) b i x y u false := by
        intro e x y u
        refine selvageref28_Recount.n33_in ?_
        rw [selvageref28_Recount.b33_eq, condB_false']
        refine starts_spec (isB_in ?_)
        have no : headF (L.drop i) = false → selvageref28_Recount.n57 (selvageref28_Recount.X w0 0) w0 0 (fun r _ => P r) [.arr 1 (bytesPV acc) false] (.pv (lnsP L)) (.arr 0 acc.length 0 acc.length) false i false := by
          intro h
          refine selvageref28_Recount.n57_in ?_
          rw [selvageref28_Recount.b57_eq, condB_false']
          exact plain h e
        refine condB_split (fun g1 => ?_) (fun g1 => no (by rw [hst, g1, Bool.false_and]))
        rw [wrap_next hlt (by omega)]
        refine starts_spec (isB_in ?_)
        cases g2 : stF L (i + 1) newM with
        | true => exact header (by rw [hst, g1, g2]; rfl)
        | false => exact no (by rw [hst, g2, Bool.and_false])
      refine opt_in (idx_ro tab9 gi rfl) ?_
      repeat ((with_reducible first | apply opt_in | apply wI | apply wT | apply wP | apply wS | apply wB); exact rfl)
      refine first2_spec (by omega) (fun x y u e => ?_) (fun e x y u => ?_)
      · repeat ((with_reducible first | apply opt_in | apply wI | apply wT | apply wP | apply wS | apply wB); exact rfl)
        cases b with
        | false => rw [condB_false']; exact look rfl _ _ _
        | true =>
          rw [condB_true']
          have hno : headF (L.drop i) = false := by
            rw [hst]
            have : stF L i oldM = false := by unfold stF; rw [gl]; exact first_at e
            rw [this, Bool.false_and]
          have hfl2 := firstF_len e
          refine selvageref28_Recount.n33_in ?_
          rw [selvageref28_Recount.b33_eq, condB_true', wrap_next hlt (by omega)]
          refine s_rrows_spec hne (by omega) (k := i + 1) (by omega) fun c hc => ?_
          have hrl := rowsN_le (L.drop (i + 1))
          rw [← hc, List.length_drop] at hrl
          obtain ⟨r1, r2, r3⟩ := hrl
          repeat ((with_reducible first | apply opt_in | apply wI | apply wT | apply wP | apply wS | apply wB); exact rfl)
          have t1 := tell_len (a := x) (n := c.2.1) (by omega) (by omega)
          have t2 := tell_len (a := y) (n := c.2.2) (by omega) (by omega)
          have k1 : ([64, 64, 32, 45] ++ tellF x c.2.1 : Ln).length ≤ 45 := by rw [List.length_append]; simp only [List.length_cons, List.length_nil]; omega
          have k2 : (([64, 64, 32, 45] ++ tellF x c.2.1) ++ [32, 43] : Ln).length ≤ 47 := by rw [List.length_append]; simp only [List.length_cons, List.length_nil]; omega
          have k3 : ((([64, 64, 32, 45] ++ tellF x c.2.1) ++ [32, 43]) ++ tellF y c.2.2 : Ln).length ≤ 88 := by rw [List.length_append]; omega
          have k4 : (((([64, 64, 32, 45] ++ tellF x c.2.1) ++ [32, 43]) ++ tellF y c.2.2) ++ [32, 64, 64] : Ln).length ≤ 91 := by rw [List.length_append]; simp only [List.length_cons, List.length_nil]; omega
          have k5 : ((((([64, 64, 32, 45] ++ tellF x c.2.1) ++ [32, 43]) ++ tellF y c.2.2) ++ [32, 64, 64]) ++ u : Ln).length ≤ 91 + l.length := by rw [List.length_append]; omega
          have h44 : ∀ z, z = lineF l x y c.2.1 c.2.2 u → selvageref28_Recount.n44 (selvageref28_Recount.X w0 0) w0 0 (fun r _ => P r) [.arr 1 (bytesPV acc) false] (.pv (lnsP L)) (.arr 0 acc.length 0 acc.length) true i ((i + 1 + c.1 : Nat) : Int) z := by
            rintro z rfl
            have kz : (lineF l x y c.2.1 c.2.2 u).length ≤ 92 + l.length := by
              have := bare_drop l
              unfold lineF
              rw [List.length_append]
              omega
            have hsp : (L.drop (i + 1)).flatten.length = ((L.drop (i + 1)).take c.1).flatten.length + (L.drop (i + 1 + c.1)).flatten.length := by
              have h9 := List.take_append_drop c.1 (L.drop (i + 1))
              have h8 := congrArg (fun z => (List.flatten z).length) h9
              simp only [List.flatten_append, List.length_append] at h8
              have hdd : (L.drop (i + 1)).drop c.1 = L.drop (i + 1 + c.1) := List.drop_drop
              rw [hdd] at h8
              exact h8.symm
            have hdf : (L.drop (i + 1)).flatten.length ≤ L.flatten.length := by
              have h8 := congrArg (fun z => (List.flatten z).length) (List.take_append_drop (i + 1) L)
              simp only [List.flatten_append, List.length_append] at h8
              omega
            refine selvageref28_Recount.n44_in ?_
            rw [selvageref28_Recount.b44_eq]
            refine opt2_in (app_line (by omega)) ?_
            rw [wrap_next hlt (by omega)]
            have hcut : aSlice [.arr 1 (bytesPV (acc ++ lineF l x y c.2.1 c.2.2 u)) false] tabS ti63.td (.pv (lnsP L)) (some (.pv (.int .i64 ((i + 1 : Nat) : Int)))) (some (.pv (.int .i64 ((i + 1 + c.1 : Nat) : Int)))) = some (.pv (lnsP ((L.drop (i + 1)).take c.1))) := by
              have hsz : sized 1 (L.map PV.str) = true := by
                simp only [sized, List.all_eq_true, List.mem_map]
                rintro z ⟨r, _, rfl⟩
                rfl
              show (if (0 : Int) ≤ ((i + 1 : Nat) : Int) ∧ ((i + 1 : Nat) : Int) ≤ ((i + 1 + c.1 : Nat) : Int) ∧ ((i + 1 + c.1 : Nat) : Int) ≤ (((L.map PV.str).length : Nat) : Int) then (if sized 1 (L.map PV.str) = true then some (AV.pv (.sl (((L.map PV.str).take ((i + 1 + c.1 : Nat) : Int).toNat).drop ((i + 1 : Nat) : Int).toNat))) else none) else none) = _
              rw [if_pos (by rw [List.length_map]; omega), if_pos hsz, Int.toNat_natCast, Int.toNat_natCast, ← List.map_take, ← List.map_drop, List.drop_take, show i + 1 + c.1 - (i + 1) = c.1 by omega]
            refine opt_in hcut ?_
            refine rJoin_spec Ld (by rw [List.length_take, List.length_drop]; omega) (by omega) (isS_in ?_)
            refine opt2_in (app_line (by rw [List.length_append]; omega)) ?_
            refine rrec_loop Ld hl hne hlen hfl q true (i + 1 + c.1) _ (by omega) (by omega) (by rw [List.length_append, List.length_append]; omega) ?_
            rw [hd] at hno hP
            rw [recF_yes hno e, ← hc] at hP
            have hdd : (L.drop (i + 1)).drop c.1 = L.drop (i + 1 + c.1) := List.drop_drop
            rw [hdd] at hP
            simpa using hP
          refine rspan_spec (by omega) (by omega) (isS_in ⟨by simp only [List.length_cons, List.length_nil]; omega, by simp only [List.length_cons, List.length_nil]; omega, ?_⟩)
          refine rspan_spec (by omega) (by omega) (isS_in ⟨by omega, by simp only [List.length_cons, List.length_nil]; omega, by omega, ?_⟩)
          refine opt_in (idx_ro tab9 gi rfl) ?_
          repeat ((with_reducible first | apply opt_in | apply wI | apply wT | apply wP | apply wS | apply wB); exact rfl)
          refine rwhole_spec (by omega) (isB_in ?_)
          have hbe := bare_end l
          refine condB_split (fun g1 => ?_) (fun g1 => ?_)
          · rw [if_pos g1] at hbe
            refine ⟨by simp only [List.length_cons, List.length_nil]; omega, h44 _ ?_⟩
            unfold lineF; rw [hbe]
          · rw [if_neg (by rw [g1]; decide)] at hbe
            refine h44 _ ?_
            unfold lineF; rw [hbe, List.append_nil]
      · repeat ((with_reducible first | apply opt_in | apply wI | apply wT | apply wP | apply wS | apply wB); exact rfl)
        cases b with
        | false => rw [condB_false']; exact look rfl _ _ _
        | true => rw [condB_true']; exact look (by rw [if_pos rfl]; exact e) _ _ _
    · refine selvageref28_Recount.n67_in ?_
      rw [selvageref28_Recount.b67_eq]
      rw [List.drop_eq_nil_of_le (by omega)] at hP
      refine opt2_in (conv_bytes rfl) (isS_in ?_)
      refine fin_cut (σ := []) (L := _) glob0 rfl rfl ?_
      simpa [recF] using hP
end
end Go.Sv
