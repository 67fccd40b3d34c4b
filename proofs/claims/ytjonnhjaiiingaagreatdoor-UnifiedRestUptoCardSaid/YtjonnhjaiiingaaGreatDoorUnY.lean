/- What the code of reading answers: a hunk, a whole diff, a text. -/
import Derived.Test.YtjonnhjaiiingaaGreatDoorUnX
import Derived.Test.YtjonnhjaiiingaaGreatDoorUnF
import Derived.Test.YtjonnhjaiiingaaGreatDoorUnW
set_option linter.unusedVariables false
set_option linter.unusedSimpArgs false
set_option maxRecDepth 100000
namespace Go.Sv
open Go Go.RowKit Go.Proofs
section
variable {w0 : Base} {σ : Store} {R : AV → Store → Prop}
theorem seal_row {k : Nat} {id es n : Nat} {xs : List PV} {fz : Bool} (h : σ[id]? = some (.arr es xs fz)) (hk : Nat.ble k id = true) (hn : xs.length = n) : sealV k σ (.arr id n 0 n) = some (.pv (.sl xs)) := by
  simp only [sealV, hk, h]
  rw [if_pos ⟨hn, by omega⟩, List.drop_zero, List.take_of_length_le (by omega)]
theorem seal_hunk {k : Nat} {id : Nat} {h : Hnk} {rows : List Row} {fz : Bool} (ho : σ[id]? = some (.arr 2 (rows.map rowP) fz)) (hk : Nat.ble k id = true) :
    sealE k σ (.agg [.pv (.int .i64 h.a), .pv (.int .i64 h.n), .pv (.int .i64 h.b), .pv (.int .i64 h.m), .pv (.str h.head), .arr id rows.length 0 rows.length]) = some (.pv (hnkP { h with rows := rows })) := by
  have e := seal_row ho hk (List.length_map _)
  simp only [sealE, sealVs, e]
  rfl
theorem seal_two {k : Nat} {a b a' b' : AV} (h1 : sealA k σ a = some a') (h2 : sealA k σ b = some b') : sealP k σ (.tup [a, b]) = some (.tup [a', b']) := by
  simp [sealP, sealAs, h1, h2]
theorem load_elem {ti : TI} {id es ver i : Nat} {xs : List PV} {fz : Bool} {cs : List PV} (ho : σ[id]? = some (.arr es xs fz)) (hv : xs.length = ver) (hi : xs[i]? = some (.agg cs)) (ha : ti.td.isAgg = true) (hs : cs.length = ti.size) : aLoad σ ti (.eptr id ver i 0) = some (.pv (.agg cs)) := by
  simp only [aLoad, ho, if_pos hv, hi, partP, ha, hs, and_self, if_true, Option.map_some]
abbrev S9 (ls : List Ln) (at_ : Nat) (p s p' s' : Ln) (hs : List Hnk) : Store := [zN, zN, rdr ls at_, zN, zN, zN, nmO p s, nmO p' s', .arr 6 (hs.map hnkP) false]
abbrev fR (e : Int) (at_ : Nat) : AV := .ro (.agg [.int .i64 e, .int .i64 (at_ : Int)]) 0
abbrev hT (ls : List Ln) (at_ : Nat) (p s p' s' : Ln) (hs : List Hnk) (h : Hnk) : Store := S9 ls at_ p s p' s' hs ++ [.cells 37 (hC0 zeroH), .cells 37 (hC0 h)]
variable {ls : List Ln} {p s p' s' : Ln} {hs hs0 : List Hnk} {at_ : Nat}
theorem rows_spec {h : Hnk} (hl : ls.length ≤ 8388608) (hx : ∀ l ∈ ls, l ≠ [] ∧ l.length ≤ 8388608) (hN : 0 ≤ h.n ∧ h.n ≤ 2147483648) (hM : 0 ≤ h.m ∧ h.m ≤ 2147483648) (hat : at_ ≤ ls.length)
    (hbad : rowsL h.n h.m (ls.drop at_) 0 0 false [] = none → (∀ acc at_, R (.ptr 12 0) (rwS ls at_ p s p' s' hs h acc ++ [fO 111 at_])) ∧ ∀ acc at_ w, R (.ptr 12 0) (rwS ls at_ p s p' s' hs h acc ++ [fO 111 at_, rO w]))
    (hgood : ∀ rows r', rowsL h.n h.m (ls.drop at_) 0 0 false [] = some (rows, r') → ∀ at', ls.drop at' = r' → at' ≤ ls.length → R (.pv (.raw (.pointer none))) (rwS ls at' p s p' s' hs h rows ++ [fO 111 at'])) :
    SCalls (cx w0) unified_reader_rows.id [.ptr 2 0, .ptr 10 0] (hT ls at_ p s p' s' hs h) R := by
  refine unified_reader_rows.calls ?_
  rw [unified_reader_rows.b0_eq]
  have e : List.length (hT ls at_ p s p' s' hs h) = 11 := rfl
  rw [e]
  generalize hf : false = f
  refine unified_reader_rows.n7_weak (EWeak.cellNil (id := 10) (es := 2) (pre := [.pv (.int .i64 h.a), .pv (.int .i64 h.n), .pv (.int .i64 h.b), .pv (.int .i64 h.m), .pv (.str h.head)]) (post := []) rfl) ?_
  exact rows_loop hl hx hN hM (ls.drop at_) at_ 0 0 f [] rfl hat (by omega) (by omega) (by omega) (by omega) (fun e => by rw [← hf] at e; cases e) (Nat.zero_le _) (fun x hx => by cases hx) (by rw [← hf]; exact hbad) (by rw [← hf]; exact hgood)
theorem hunk36 {h : Hnk} {rows : List Row} {a : Nat} (t : Bool) 
    (hbad : t = true → R (.tup [.pv (hnkP { h with rows := rows }), fR 112 a]) (S9 ls at_ p s p' s' hs))
    (hgood : t = false → R (.tup [.pv (hnkP { h with rows := rows }), .pv (.raw (.pointer none))]) (S9 ls at_ p s p' s' hs)) (x : SObj) :
    unified_reader_hunk.n36 (unified_reader_hunk.X w0 9) w0 9 R (S9 ls at_ p s p' s' hs ++ [.cells 37 (hC0 zeroH), .cells 37 [.pv (.int .i64 h.a), .pv (.int .i64 h.n), .pv (.int .i64 h.b), .pv (.int .i64 h.m), .pv (.str h.head), .arr 11 rows.length 0 rows.length], .arr 2 (rows.map rowP) true, x]) (.ptr 9 0) (a : Int) (.ptr 10 0) t := by
  refine unified_reader_hunk.n36_in ?_
  rw [unified_reader_hunk.b36_eq]
  refine condB_split (fun g => ?_) (fun g => ?_)
  · repeat ((with_reducible first | apply opt_in | apply wI | apply wT | apply wP | apply wS | apply wB); exact rfl)
    refine ⟨rfl, ?_⟩
    repeat ((with_reducible first | apply opt_in | apply wI | apply wT | apply wP | apply wS | apply wB); exact rfl)
    refine fin_ptr (σ := S9 ls at_ p s p' s' hs) glob0 rfl (seal_two (seal_hunk (fz := true) rfl rfl) rfl) (hbad g)
  · repeat ((with_reducible first | apply opt_in | apply wI | apply wT | apply wP | apply wS | apply wB); exact rfl)
    refine fin_ptr (σ := S9 ls at_ p s p' s' hs) glob0 rfl (seal_two (seal_hunk (fz := true) rfl rfl) rfl) (hgood g)
theorem hunk_spec (L : Laid w0.w) {l : Ln} (hl : ls.length ≤ 4194306) (hx : ∀ l ∈ ls, l ≠ [] ∧ l.length ≤ 4194306) (hrows : ls.flatten.length ≤ 4194305) (hat : ls[at_]? = some l) (hh : hs.length ≤ 8388608)
    (hbad : hunkL hs (ls.drop at_) = none → ∀ (h : Hnk) (e : Int) (a at' : Nat), R (.tup [.pv (hnkP h), fR e a]) (S9 ls at' p s p' s' hs))
    (hgood : ∀ h r, hunkL hs (ls.drop at_) = some (h, r) → ∀ at', ls.drop at' = r → at' ≤ ls.length → R (.tup [.pv (hnkP h), .pv (.raw (.pointer none))]) (S9 ls at' p s p' s' hs)) :
    SCalls (cx w0) unified_reader_hunk.id [.ptr 2 0, .arr 8 hs.length 0 hs.length] (S9 ls at_ p s p' s' hs) R := by
  have hlt := (List.getElem?_eq_some_iff.1 hat).1
  have hlx := hx l (List.mem_of_getElem? hat)
  have hbl := bareB_le l
  have hdr : ls.drop at_ = l :: ls.drop (at_ + 1) := by
    rw [List.drop_eq_getElem_cons hlt]
    rw [List.getElem?_eq_getElem hlt] at hat
    cases hat; rfl
  have wi : IntKind.wrap .i64 ((at_ : Int) + 1) = ((at_ + 1 : Nat) : Int) := by rw [wrap_i64 (by omega) (by omega)]; omega
  rw [hdr] at hbad hgood
  refine unified_reader_hunk.calls ?_
  rw [unified_reader_hunk.b0_eq]
  repeat ((with_reducible first | apply opt_in | apply wI | apply wT | apply wP | apply wS | apply wB); exact rfl)
  refine opt_in (idx_ro tab9 (ln_get hat) rfl) ?_
  repeat ((with_reducible first | apply opt_in | apply wI | apply wT | apply wP | apply wS | apply wB); exact rfl)
  refine bare_spec (by omega) (isS_in ?_)
  refine first_spec L (by omega) ?_
  have ho := firstF_out (bareB l)
  generalize hf : firstF (bareB l) = fr at ho
  obtain ⟨h0, ok⟩ := fr
  simp only at ho
  obtain ⟨o1, o2, o3, o4, o5, o6⟩ := ho
  repeat ((with_reducible first | apply opt_in | apply wI | apply wT | apply wP | apply wS | apply wB); exact rfl)
  rw [condB_not]
  refine condB_split (fun g => ?_) (fun g => ?_)
  · repeat ((with_reducible first | apply opt_in | apply wI | apply wT | apply wP | apply wS | apply wB); exact rfl)
    rw [wi]
    repeat ((with_reducible first | apply opt_in | apply wI | apply wT | apply wP | apply wS | apply wB); exact rfl)
    refine rows_spec (h := h0) (at_ := at_ + 1) (by omega) (fun l hl => ⟨(hx l hl).1, by have := (hx l hl).2; omega⟩) o2 o4 hlt (fun hn => ?_) (fun rows r' hr at' hd' hle => ?_)
    · have hb := hbad (by have g1 : ok = true := g; simp only [hunkL, hf, g1, if_true, hn])
      refine ⟨fun acc at2 => ?_, fun acc at2 w => ?_⟩
      · rw [neq_raw]
        refine opt_in rfl (opt_in (v := false) rfl (isB_in ?_))
        rw [Bool.not_false, condB_true']
        repeat ((with_reducible first | apply opt_in | apply wI | apply wT | apply wP | apply wS | apply wB); exact rfl)
        exact fin_ptr (σ := S9 ls at2 p s p' s' hs) glob0 rfl (seal_two (seal_hunk (h := h0) (fz := false) rfl rfl) rfl) (hb _ 111 at2 at2)
      · rw [neq_raw]
        refine opt_in rfl (opt_in (v := false) rfl (isB_in ?_))
        rw [Bool.not_false, condB_true']
        repeat ((with_reducible first | apply opt_in | apply wI | apply wT | apply wP | apply wS | apply wB); exact rfl)
        exact fin_ptr (σ := S9 ls at2 p s p' s' hs) glob0 rfl (seal_two (seal_hunk (h := h0) (fz := false) rfl rfl) rfl) (hb _ 111 at2 at2)
    · rw [neq_raw]
      refine opt_in rfl (opt_in (v := true) rfl (isB_in ?_))
      rw [Bool.not_true, condB_false']
      repeat ((with_reducible first | apply opt_in | apply wI | apply wT | apply wP | apply wS | apply wB); exact rfl)
      have hro := rowsL_out h0.n h0.m 4194306 (ls.drop (at_ + 1)) 0 0 false [] rows r' (fun l hl => (hx l (List.mem_of_mem_drop hl)).2) hr
      refine SCalls.freeze (id := 11) (es := 2) (xs := rows.map rowP) (fz := false) rfl (.cons (.part [_, _, _, _, _] [] _ (List.length_map _).symm) .nil) ?_
      have g1 : ok = true := g
      have hfl : (ls.drop (at_ + 1)).flatten.length ≤ ls.flatten.length := by
        have := congrArg (fun x : List Ln => x.flatten.length) (List.take_append_drop (at_ + 1) ls)
        simp only [List.flatten_append, List.length_append] at this
        omega
      have hr1 := hro.len
      have hr2 := hro.text (fun x hx => by cases hx)
      simp only [List.length_nil] at hr1
      refine Valid_spec L (h := { h0 with rows := rows }) (by show rows.length ≤ _; omega) (fun x hx => Nat.le_trans (hr2 x hx) (by decide)) (by show h0.head.length ≤ _; omega) ⟨by show _ ≤ h0.a; omega, by show h0.a ≤ _; omega⟩ ⟨by show _ ≤ h0.b; omega, by show h0.b ≤ _; omega⟩ ?_
      cases hv : validF { h0 with rows := rows } with
      | false =>
        rw [vErr, if_neg (by decide), neq_raw]
        refine opt_in rfl (opt_in (v := false) rfl (isB_in ?_))
        rw [Bool.not_false, condB_true']
        repeat ((with_reducible first | apply opt_in | apply wI | apply wT | apply wP | apply wS | apply wB); exact rfl)
        refine ⟨rfl, ?_⟩
        repeat ((with_reducible first | apply opt_in | apply wI | apply wT | apply wP | apply wS | apply wB); exact rfl)
        refine fin_ptr (σ := S9 ls at' p s p' s' hs) glob0 rfl (seal_two (seal_hunk (h := h0) (rows := rows) (fz := true) rfl rfl) rfl) (hbad ?_ _ 100 at_ _)
        simp only [hunkL, hf, g1, if_true, hr, hv, Bool.false_eq_true, if_false]
      | true =>
        rw [vErr, if_pos rfl, neq_raw]
        refine opt_in rfl (opt_in (v := true) rfl (isB_in ?_))
        rw [Bool.not_true, condB_false']
        have hev : ∀ t, t = !ordL hs { h0 with rows := rows } → unified_reader_hunk.n36 (unified_reader_hunk.X w0 9) w0 9 R (S9 ls at' p s p' s' hs ++ [.cells 37 (hC0 zeroH), .cells 37 [.pv (.int .i64 h0.a), .pv (.int .i64 h0.n), .pv (.int .i64 h0.b), .pv (.int .i64 h0.m), .pv (.str h0.head), .arr 11 rows.length 0 rows.length], .arr 2 (rows.map rowP) true, fO 111 at']) (.ptr 9 0) (at_ : Int) (.ptr 10 0) t := by
          intro t ht
          refine hunk36 t (fun e => hbad ?_ _ 112 at_ _) (fun e => hgood _ r' ?_ at' hd' hle) _
          · rw [e] at ht
            have : ordL hs { h0 with rows := rows } = false := by simpa using ht.symm
            simp only [hunkL, hf, g1, if_true, hr, hv, this, Bool.false_eq_true, if_false]
          · rw [e] at ht
            have : ordL hs { h0 with rows := rows } = true := by simpa using ht.symm
            simp only [hunkL, hf, g1, if_true, hr, hv, this]
        repeat ((with_reducible first | apply opt_in | apply wI | apply wT | apply wP | apply wS | apply wB); exact rfl)
        rw [condB_decide]
        refine ite_split (fun g2 => ?_) (fun g2 => hev _ ?_)
        · obtain ⟨q, hq, rfl⟩ : ∃ q hq, hs = q ++ [hq] := by
            rcases List.eq_nil_or_concat hs with e | ⟨q, hq, e⟩
            · rw [e] at g2; exact absurd g2 (by decide)
            · exact ⟨q, hq, by rw [e, List.concat_eq_append]⟩
          have hql : (q ++ [hq]).length = q.length + 1 := by simp
          have hget : ((q ++ [hq]).map hnkP)[q.length]? = some (hnkP hq) := by simp
          have wl : IntKind.wrap .i64 ((((q ++ [hq]).length : Nat) : Int) - 1) = (q.length : Int) := by rw [hql, wrap_i64 (by omega) (by omega)]; omega
          repeat ((with_reducible first | apply opt_in | apply wI | apply wT | apply wP | apply wS | apply wB); exact rfl)
          rw [wl]
          refine opt_in (idx_arr (id := 8) (xs := (q ++ [hq]).map hnkP) tab37 rfl (by omega) rfl (List.length_map _)) ?_
          rw [Nat.zero_add]
          refine opt_in (load_elem (id := 8) (xs := (q ++ [hq]).map hnkP) rfl (List.length_map _) hget rfl rfl) ?_
          repeat ((with_reducible first | apply opt_in | apply wI | apply wT | apply wP | apply wS | apply wB); exact rfl)
          refine SCalls.freeze (id := 11) (es := 2) (xs := rows.map rowP) (fz := true) rfl (.cons (.same _) (.cons (.part [_, _, _, _, _] [] _ (List.length_map _).symm) .nil)) ?_
          refine follows_spec L (g := hq) (h := { h0 with rows := rows }) (isB_in ?_)
          refine hev _ ?_
          have : ordL (q ++ [hq]) { h0 with rows := rows } = ordB hq { h0 with rows := rows } := by unfold ordL; simp
          rw [this]
        · have : hs = [] := by
            cases hs with
            | nil => rfl
            | cons x y => exact absurd g2 (by simp only [List.length_cons]; omega)
          rw [this]; rfl
  · repeat ((with_reducible first | apply opt_in | apply wI | apply wT | apply wP | apply wS | apply wB); exact rfl)
    refine ⟨rfl, ?_⟩
    repeat ((with_reducible first | apply opt_in | apply wI | apply wT | apply wP | apply wS | apply wB); exact rfl)
    refine fin_ptr (σ := S9 ls at_ p s p' s' hs) glob0 rfl (r' := .tup [.pv (hnkP { h0 with rows := [] }), fR 100 at_]) rfl (hbad ?_ _ _ _ _)
    rw [hunkL, hf, if_neg (by rw [g]; decide)]
abbrev S3 (ls : List Ln) (at_ : Nat) : Store := [zN, zN, rdr ls at_]
abbrev rdBad (R : AV → Store → Prop) (ls : List Ln) : Prop := ∀ (e : Int) (a at' : Nat), R (.tup [.pv (nmP [] []), .pv (nmP [] []), .pv (.sl []), fR e a]) (S3 ls at')
theorem seal_four {k : Nat} {a b c d a' b' c' d' : AV} (h1 : sealA k σ a = some a') (h2 : sealA k σ b = some b') (h3 : sealA k σ c = some c') (h4 : sealA k σ d = some d') : sealP k σ (.tup [a, b, c, d]) = some (.tup [a', b', c', d']) := by
  simp [sealP, sealAs, h1, h2, h3, h4]
theorem seal_arr {k : Nat} {id es n : Nat} {xs : List PV} {fz : Bool} (h : σ[id]? = some (.arr es xs fz)) (hk : Nat.ble k id = true) (hn : xs.length = n) : sealA k σ (.arr id n 0 n) = some (.pv (.sl xs)) := seal_row h hk hn
theorem read47 {acc : List Hnk} (hat : at_ ≤ ls.length)
    (hbad : acc = [] → rdBad R ls)
    (hgood : acc ≠ [] → R (.tup [.pv (nmP p s), .pv (nmP p' s'), hnksA acc, .pv (.raw (.pointer none))]) (S3 ls at_)) :
    unified_reader_read.n47 (unified_reader_read.X w0 3) w0 3 R (S9 ls at_ p s p' s' acc) (.ptr 2 0) (.ptr 3 0) (.ptr 4 0) (.ptr 5 0) (.ptr 6 0) (.ptr 7 0) (.arr 8 acc.length 0 acc.length) := by
  refine unified_reader_read.n47_in ?_
  rw [unified_reader_read.b47_eq]
  repeat ((with_reducible first | apply opt_in | apply wI | apply wT | apply wP | apply wS | apply wB); exact rfl)
  rw [condB_ibeq]
  refine ite_split (fun g => ?_) (fun g => ?_)
  · repeat ((with_reducible first | apply opt_in | apply wI | apply wT | apply wP | apply wS | apply wB); exact rfl)
    refine ⟨rfl, ?_⟩
    refine ⟨rfl, ?_⟩
    repeat ((with_reducible first | apply opt_in | apply wI | apply wT | apply wP | apply wS | apply wB); exact rfl)
    refine ⟨rfl, rfl, ?_⟩
    repeat ((with_reducible first | apply opt_in | apply wI | apply wT | apply wP | apply wS | apply wB); exact rfl)
    refine fin_ptr (σ := S3 ls at_) glob0 rfl (r' := .tup [.pv (nmP [] []), .pv (nmP [] []), .pv (.sl []), fR 100 at_]) rfl (hbad ?_ _ _ _)
    exact List.length_eq_zero_iff.1 (by omega)
  · repeat ((with_reducible first | apply opt_in | apply wI | apply wT | apply wP | apply wS | apply wB); exact rfl)
    refine ⟨rfl, ?_⟩
    repeat ((with_reducible first | apply opt_in | apply wI | apply wT | apply wP | apply wS | apply wB); exact rfl)
    exact fin_ptr (σ := S3 ls at_) glob0 rfl (seal_four rfl rfl (seal_arr (id := 8) (es := 6) (fz := false) (xs := acc.map hnkP) rfl rfl (List.length_map _)) rfl) (hgood fun e => g (by rw [e]; rfl))
theorem drop_cons {α : Type} {xs : List α} {k : Nat} {c : α} (h : xs[k]? = some c) : xs.drop k = c :: xs.drop (k + 1) := by
  have hlt := (List.getElem?_eq_some_iff.1 h).1
  rw [List.drop_eq_getElem_cons hlt]
  rw [List.getElem?_eq_getElem hlt] at h
  cases h; rfl
theorem read_loop (L : Laid w0.w) (hl : ls.length ≤ 4194306) (hx : ∀ l ∈ ls, l ≠ [] ∧ l.length ≤ 4194306) (hrows : ls.flatten.length ≤ 4194305) : ∀ (f at_ : Nat) (acc : List Hnk), (ls.drop at_).length < f → at_ ≤ ls.length → acc.length ≤ at_ → ((∀ hs r, hunksL f acc (ls.drop at_) = some (hs, r) → hs = []) → rdBad R ls) →
    (∀ hs r, hunksL f acc (ls.drop at_) = some (hs, r) → hs ≠ [] → ∀ at', ls.drop at' = r → at' ≤ ls.length → R (.tup [.pv (nmP p s), .pv (nmP p' s'), hnksA hs, .pv (.raw (.pointer none))]) (S3 ls at')) →
    unified_reader_read.n28 (unified_reader_read.X w0 3) w0 3 R (S9 ls at_ p s p' s' acc) (.ptr 2 0) (.ptr 3 0) (.ptr 4 0) (.ptr 5 0) (.ptr 6 0) (.ptr 7 0) (.arr 8 acc.length 0 acc.length)
  | 0, at_, acc, h, _, _, _, _ => absurd h (Nat.not_lt_zero _)
  | f + 1, at_, acc, hf, hat, hacc, hbad, hgood => by
    have stop : (∀ hs r, hunksL (f + 1) acc (ls.drop at_) = some (hs, r) → hs = acc ∧ r = ls.drop at_) → hunksL (f + 1) acc (ls.drop at_) = some (acc, ls.drop at_) → ∀ t, t = false → unified_reader_read.n32 (unified_reader_read.X w0 3) w0 3 R (S9 ls at_ p s p' s' acc) (.ptr 2 0) (.ptr 3 0) (.ptr 4 0) (.ptr 5 0) (.ptr 6 0) (.ptr 7 0) (.arr 8 acc.length 0 acc.length) t := by
      rintro h1 h2 t rfl
      refine unified_reader_read.n32_in ?_
      rw [unified_reader_read.b32_eq, condB_false']
      exact read47 hat (fun e => hbad fun hs r h => by rw [(h1 hs r h).1, e]) (fun hne => hgood _ _ h2 hne at_ rfl hat)
    refine unified_reader_read.n28_in ?_
    rw [unified_reader_read.b29_eq]
    repeat ((with_reducible first | apply opt_in | apply wI | apply wT | apply wP | apply wS | apply wB); exact rfl)
    rw [condB_decide]
    refine ite_split (fun g => ?_) (fun g => ?_)
    · rw [List.length_map] at g
      obtain ⟨l, hl0⟩ : ∃ l, ls[at_]? = some l := ⟨ls[at_]'(by omega), List.getElem?_eq_getElem (by omega)⟩
      have hdr := drop_cons hl0
      have hlx := hx l (List.mem_of_getElem? hl0)
      repeat ((with_reducible first | apply opt_in | apply wI | apply wT | apply wP | apply wS | apply wB); exact rfl)
      refine opt_in (idx_ro tab9 (ln_get hl0) rfl) ?_
      repeat ((with_reducible first | apply opt_in | apply wI | apply wT | apply wP | apply wS | apply wB); exact rfl)
      refine HasPrefix_spec (isB_in ?_)
      cases hp : Lib.hasPrefix l [64, 64, 32, 45] with
      | false =>
        have h2 : hunksL (f + 1) acc (ls.drop at_) = some (acc, ls.drop at_) := by
          rw [hdr, hunksL, if_neg (by rw [hp]; decide)]
        generalize hb : false = b
        exact stop (fun hs r h => by rw [h2] at h; cases h; exact ⟨rfl, rfl⟩) h2 b hb.symm
      | true =>
        generalize hb : true = b
        refine unified_reader_read.n32_in ?_
        rw [unified_reader_read.b32_eq]
        subst hb
        rw [condB_true']
        have heq : hunksL (f + 1) acc (ls.drop at_) = match hunkL acc (ls.drop at_) with
            | none => none
            | some (h, r) => hunksL f (acc ++ [h]) r := by
          rw [hdr, hunksL, if_pos hp]; rfl
        refine hunk_spec L hl hx hrows hl0 (by omega) (fun hn h e a at' => ?_) (fun h r hr at' hd' hle => ?_)
        · repeat ((with_reducible first | apply opt_in | apply wI | apply wT | apply wP | apply wS | apply wB); exact rfl)
          rw [neq_raw]
          refine opt_in rfl (opt_in (v := false) rfl (isB_in ?_))
          rw [Bool.not_false, condB_true']
          repeat ((with_reducible first | apply opt_in | apply wI | apply wT | apply wP | apply wS | apply wB); exact rfl)
          refine ⟨rfl, ?_⟩
          repeat ((with_reducible first | apply opt_in | apply wI | apply wT | apply wP | apply wS | apply wB); exact rfl)
          exact fin_ptr (σ := S3 ls at') glob0 rfl rfl (hbad (fun hs r h => by rw [heq, hn] at h; cases h) e a at')
        · have ho := hunkL_out (T := 4194306) (ls := ls.drop at_) (fun l hl => (hx l (List.mem_of_mem_drop hl)).2) (fun l hl => (hx l (List.mem_of_mem_drop hl)).1) hr
          obtain ⟨l1, q, hq⟩ := ho.pre
          have hlen : (ls.drop at').length < (ls.drop at_).length := by
            rw [hd', hq]; simp only [List.length_cons, List.length_append]; omega
          rw [List.length_drop, List.length_drop] at hlen
          repeat ((with_reducible first | apply opt_in | apply wI | apply wT | apply wP | apply wS | apply wB); exact rfl)
          rw [neq_raw]
          refine opt_in rfl (opt_in (v := true) rfl (isB_in ?_))
          rw [Bool.not_true, condB_false']
          repeat ((with_reducible first | apply opt_in | apply wI | apply wT | apply wP | apply wS | apply wB); exact rfl)
          refine opt2_in (v := .pv (.sl [hnkP h])) rfl ?_
          refine opt2_in (append_pv (id := 8) (es := 6) (ver := acc.length) (xs := acc.map hnkP) (ys := [hnkP h]) rfl rfl (List.length_map _).symm rfl rfl ⟨by rw [List.length_map]; show acc.length + 1 ≤ _; omega, by rw [List.length_map]; show (acc.length + 1) * 72 ≤ _; omega⟩) ?_
          have e : acc.map hnkP ++ [hnkP h] = (acc ++ [h]).map hnkP := by simp
          have e2 : (acc.map hnkP).length + [hnkP h].length = (acc ++ [h]).length := by simp
          rw [e, e2]
          refine unified_reader_read.n28_weak (EWeak.drop (τ := S9 ls at' p s p' s' (acc ++ [h])) glob0 (Nat.le_of_ble_eq_true rfl) rfl rfl) ?_
          have he : hunksL (f + 1) acc (ls.drop at_) = hunksL f (acc ++ [h]) (ls.drop at') := by
            rw [heq, hr]
            simp only
            rw [← hd']
          rw [he] at hgood hbad
          exact read_loop L hl hx hrows f at' (acc ++ [h]) (by rw [List.length_drop] at hf ⊢; omega) hle (by rw [List.length_append, List.length_singleton]; omega) hbad hgood
    · rw [List.length_map] at g
      have h2 : hunksL (f + 1) acc (ls.drop at_) = some (acc, ls.drop at_) := by
        rw [List.drop_eq_nil_of_le (by omega)]; rfl
      generalize hb : false = b
      exact stop (fun hs r h => by rw [h2] at h; cases h; exact ⟨rfl, rfl⟩) h2 b hb.symm
theorem read_no1 (h : nameAt [45, 45, 45, 32] ls 0 = none) : readL ls = none := by
  match ls, h with
  | [], _ => rfl
  | [_], _ => rfl
  | l1 :: l2 :: r, h =>
    have : nameF [45, 45, 45, 32] l1 = none := h
    rw [readL, this]
theorem read_no2 (h : nameAt [43, 43, 43, 32] ls 1 = none) : readL ls = none := by
  match ls, h with
  | [], _ => rfl
  | [_], _ => rfl
  | l1 :: l2 :: r, h =>
    have : nameF [43, 43, 43, 32] l2 = none := h
    rw [readL, this]
    cases nameF [45, 45, 45, 32] l1 <;> rfl
theorem read_spec (L : Laid w0.w) (hl : ls.length ≤ 4194306) (hx : ∀ l ∈ ls, l ≠ [] ∧ l.length ≤ 4194306) (hrows : ls.flatten.length ≤ 4194305)
    (hbad : readL ls = none → rdBad R ls)
    (hgood : ∀ x, readL ls = some x → ∀ at', ls.drop at' = x.r → at' ≤ ls.length → R (.tup [.pv (nmP x.a.1 x.a.2), .pv (nmP x.b.1 x.b.2), hnksA x.l, .pv (.raw (.pointer none))]) (S3 ls at')) :
    SCalls (cx w0) unified_reader_read.id [.ptr 2 0] (S3 ls 0) R := by
  refine unified_reader_read.calls ?_
  rw [unified_reader_read.b0_eq]
  refine name_spec (T := []) L (by decide) (by decide) (by decide) (.inl rfl) (by omega) (fun l hl => by have := (hx l hl).2; omega) ?_
  cases h1 : nameAt [45, 45, 45, 32] ls 0 with
  | none =>
    unfold nameA nameN
    repeat ((with_reducible first | apply opt_in | apply wI | apply wT | apply wP | apply wS | apply wB); exact rfl)
    rw [neq_raw]
    refine opt_in rfl (opt_in (v := false) rfl (isB_in ?_))
    rw [Bool.not_false, condB_true']
    repeat ((with_reducible first | apply opt_in | apply wI | apply wT | apply wP | apply wS | apply wB); exact rfl)
    refine ⟨rfl, ?_⟩
    repeat ((with_reducible first | apply opt_in | apply wI | apply wT | apply wP | apply wS | apply wB); exact rfl)
    exact fin_ptr (σ := S3 ls 0) glob0 rfl rfl (hbad (read_no1 h1) 110 0 0)
  | some q =>
    obtain ⟨p, s⟩ := q
    unfold nameA nameN
    repeat ((with_reducible first | apply opt_in | apply wI | apply wT | apply wP | apply wS | apply wB); exact rfl)
    rw [neq_raw]
    refine opt_in rfl (opt_in (v := true) rfl (isB_in ?_))
    rw [Bool.not_true, condB_false']
    refine name_spec (T := [nmO p s]) (at_ := 1) L (by decide) (by decide) (by decide) (.inr ⟨p, s, rfl⟩) (by omega) (fun l hl => by have := (hx l hl).2; omega) ?_
    cases h2 : nameAt [43, 43, 43, 32] ls 1 with
    | none =>
      unfold nameA nameN
      repeat ((with_reducible first | apply opt_in | apply wI | apply wT | apply wP | apply wS | apply wB); exact rfl)
      rw [neq_raw]
      refine opt_in rfl (opt_in (v := false) rfl (isB_in ?_))
      rw [Bool.not_false, condB_true']
      repeat ((with_reducible first | apply opt_in | apply wI | apply wT | apply wP | apply wS | apply wB); exact rfl)
      refine ⟨rfl, ?_⟩
      repeat ((with_reducible first | apply opt_in | apply wI | apply wT | apply wP | apply wS | apply wB); exact rfl)
      exact fin_ptr (σ := S3 ls 1) glob0 rfl rfl (hbad (read_no2 h2) 110 1 1)
    | some q =>
      obtain ⟨p', s'⟩ := q
      unfold nameA nameN
      repeat ((with_reducible first | apply opt_in | apply wI | apply wT | apply wP | apply wS | apply wB); exact rfl)
      rw [neq_raw]
      refine opt_in rfl (opt_in (v := true) rfl (isB_in ?_))
      rw [Bool.not_true, condB_false']
      obtain ⟨l1, l2, r, e, e1, e2⟩ : ∃ l1 l2 r, ls = l1 :: l2 :: r ∧ nameF [45, 45, 45, 32] l1 = some (p, s) ∧ nameF [43, 43, 43, 32] l2 = some (p', s') := by
        unfold nameAt at h1 h2
        cases ls with
        | nil => simp at h1
        | cons l1 r =>
          cases r with
          | nil => simp at h2
          | cons l2 r => exact ⟨l1, l2, r, rfl, by simpa using h1, by simpa using h2⟩
      have hd2 : ls.drop 2 = r := by rw [e]; rfl
      have hlen : 2 ≤ ls.length := by rw [e]; simp
      refine unified_reader_read.n28_weak (r' := .ptr 2 0) (t2' := .ptr 3 0) (t3' := .ptr 4 0) (none_' := .ptr 5 0) (old' := .ptr 6 0) (fresh' := .ptr 7 0) (out' := .arr 8 0 0 0) (τ := S9 ls 2 p s p' s' []) (EWeak.nil (t := 10) (es := 6) rfl rfl) ?_
      have hrd : readL ls = match hunksL (r.length + 1) [] r with
          | some (h :: hs, r) => some ⟨(p, s), (p', s'), h :: hs, r⟩
          | _ => none := by
        rw [e, readL, e1, e2]; rfl
      refine read_loop L hl hx hrows (r.length + 1) 2 [] (by rw [hd2]; omega) hlen (Nat.zero_le _) (fun hno => hbad ?_) (fun hs r' hr hne at' hd' hle => ?_)
      · rw [hd2] at hno
        rw [hrd]
        split
        · rename_i hq
          exact absurd (hno _ _ hq) (by simp)
        · rfl
      rw [hd2] at hr
      refine hgood ⟨(p, s), (p', s'), hs, r'⟩ ?_ at' hd' hle
      rw [e, readL, e1, e2]
      simp only [hr]
      cases hs with
      | nil => exact absurd rfl hne
      | cons h hs => rfl
abbrev parseBad (w : AV) : Prop := ∃ (n : Int) (e : Int), w = .tup [.pv (nmP [] []), .pv (nmP [] []), .pv (.sl []), .pv (.str []), .pv (.int .i64 n), .pv (.iface 50 (.int .i64 e))]
def parseOut (s : Ln) (w : AV) : Prop := match parseF s with
  | some (x, rest) => w = .tup [.pv (nmP x.a.1 x.a.2), .pv (nmP x.b.1 x.b.2), hnksA x.l, .pv (.str rest), .pv (.int .i64 0), .pv (.raw .nilIface)]
  | none => parseBad w
theorem parseOut_under {s : Ln} {w : AV} (h : parseOut s w) : AV.under 0 w = true := by
  unfold parseOut at h
  split at h
  · rw [h]; rfl
  · obtain ⟨n, e, rfl⟩ := h; rfl
abbrev S5 (ls : List Ln) (at_ : Nat) (p s p' s' : Ln) : Store := S3 ls at_ ++ [nmO p s, nmO p' s']
theorem parse49 {x : Ln} {size : Int} {k : Nat} (hk : k ≤ x.length) (hs : (if (x.length : Int) < size then (x.length : Int) else size) = (k : Int)) {v : AV} 
    (hv : R v []) (he : v = .tup [.pv (nmP p s), .pv (nmP p' s'), hnksA hs0, .pv (.str (x.drop k)), .pv (.int .i64 0), .pv (.raw .nilIface)]) :
    unified_Parse.n49 (unified_Parse.X w0 0) w0 0 R (S5 ls at_ p s p' s') x (.ptr 0 0) (.ptr 1 0) (.ptr 3 0) (.ptr 4 0) (hnksA hs0) size := by
  subst he
  refine unified_Parse.n49_in ?_
  rw [unified_Parse.b49_eq, hs]
  repeat ((with_reducible first | apply opt_in | apply wI | apply wT | apply wP | apply wS | apply wB); exact rfl)
  refine opt_in (slice_drop hk) (isS_in ?_)
  repeat ((with_reducible first | apply opt_in | apply wI | apply wT | apply wP | apply wS | apply wB); exact rfl)
  refine ⟨rfl, opt_in (slice_drop hk) rfl, ?_⟩
  repeat ((with_reducible first | apply opt_in | apply wI | apply wT | apply wP | apply wS | apply wB); exact rfl)
  refine ⟨opt_in (slice_drop hk) rfl, opt_in (slice_drop hk) rfl, ?_⟩
  repeat ((with_reducible first | apply opt_in | apply wI | apply wT | apply wP | apply wS | apply wB); exact rfl)
  exact fin_cut (σ := []) glob0 rfl rfl hv
theorem slice_lns {σ : Store} {ls : List Ln} {k : Nat} (h : k ≤ ls.length) : aSlice σ tabS ti46.td (.pv (lnsP ls)) none (some (.pv (.int .i64 (k : Int)))) = some (.pv (lnsP (ls.take k))) := by
  show (if (0 : Int) ≤ 0 ∧ (0 : Int) ≤ (k : Int) ∧ (k : Int) ≤ (((ls.map PV.str).length : Nat) : Int) then (if sized 1 (ls.map PV.str) = true then some (AV.pv (.sl (((ls.map PV.str).take (k : Int).toNat).drop (0 : Int).toNat))) else none) else none) = _
  have e : sized 1 (ls.map PV.str) = true := by
    simp only [sized, List.all_eq_true, List.mem_map]
    rintro x ⟨r, _, rfl⟩
    rfl
  rw [if_pos (by rw [List.length_map]; omega), if_pos e]
  simp
theorem size_loop {x : Ln} (xs : List Ln) (total : Nat) (hT : total ≤ 4194305) (next : unified_Parse.n49 (unified_Parse.X w0 0) w0 0 R (S5 ls at_ p s p' s') x (.ptr 0 0) (.ptr 1 0) (.ptr 3 0) (.ptr 4 0) (hnksA hs0) (total : Int)) : ∀ (r : List Ln) (k size : Nat), xs.drop k = r → size + r.flatten.length = total → xs.length ≤ 4194306 →
    unified_Parse.n36 (unified_Parse.X w0 0) w0 0 R (S5 ls at_ p s p' s') x (.ptr 0 0) (.ptr 1 0) (.ptr 3 0) (.ptr 4 0) (hnksA hs0) (size : Int) (.pv (lnsP xs)) xs.length k
  | [], k, size, hd, hs, hl => by
    have hk := drop_end hd
    refine unified_Parse.n36_in ?_
    rw [unified_Parse.b37_eq, condB_decide, if_neg (by omega)]
    simp at hs
    rw [hs]; exact next
  | l :: r, k, size, hd, hs, hl => by
    obtain ⟨h1, h2, hk⟩ := drop_facts hd
    simp only [List.flatten_cons, List.length_append] at hs
    refine unified_Parse.n36_in ?_
    rw [unified_Parse.b37_eq, condB_decide, if_pos (by omega)]
    refine opt_in (idx_ro tab9 (ln_get h1) rfl) ?_
    repeat ((with_reducible first | apply opt_in | apply wI | apply wT | apply wP | apply wS | apply wB); exact rfl)
    rw [wrap_i64 (n := (size : Int) + _) (by omega) (by omega), wrap_next hk (by omega)]
    have e : (size : Int) + (l.length : Int) = ((size + l.length : Nat) : Int) := by omega
    rw [e]
    exact size_loop xs total hT next r (k + 1) (size + l.length) h2 (by omega) hl
theorem len_flatten : ∀ {L : List Ln}, (∀ l ∈ L, l ≠ []) → L.length ≤ L.flatten.length
  | [], _ => Nat.le_refl _
  | l :: L, h => by
    have := len_flatten (L := L) fun x hx => h x (List.mem_cons_of_mem _ hx)
    have h1 : 1 ≤ l.length := List.length_pos_iff.2 (h l (by simp))
    simp only [List.length_cons, List.flatten_cons, List.length_append]; omega
theorem Parse_spec (L : Laid w0.w) {x : Ln} (hx : x.length ≤ 4611686018427387904) (hR : ∀ w, parseOut x w → R w σ) : SCalls (cx w0) unified_Parse.id [.pv (.str x)] σ R := by
  refine SCalls.some_of (P := parseOut x) L rfl (fun w1 L1 => ?_) (fun r h => parseOut_under h) hR
  refine unified_Parse.calls ?_
  rw [unified_Parse.b0_eq, condB_decide]
  refine ite_split (fun g => ?_) (fun g => ?_)
  · repeat ((with_reducible first | apply opt_in | apply wI | apply wT | apply wP | apply wS | apply wB); exact rfl)
    refine fin_seal (σ := []) glob0 rfl (r' := .tup [.pv (nmP [] []), .pv (nmP [] []), .pv (.sl []), .pv (.str []), .pv (.int .i64 0), .pv (.iface 50 (.int .i64 2))]) rfl ?_
    unfold parseOut parseF
    rw [if_pos (by omega)]
    exact ⟨_, _, rfl⟩
  · have fin : ∀ t, t = decide (x ≠ [] ∧ wholeB x = false) → unified_Parse.n15 (unified_Parse.X w1 0) w1 0 (fun r _ => parseOut x r) [zN, zN] x (.ptr 0 0) (.ptr 1 0) x t := by
      rintro t rfl
      have hwl := wholeF_len x
      have key : unified_Parse.n18 (unified_Parse.X w1 0) w1 0 (fun r _ => parseOut x r) [zN, zN] x (.ptr 0 0) (.ptr 1 0) (wholeF x) := by
        refine unified_Parse.n18_in ?_
        rw [unified_Parse.b18_eq]
        refine Split_spec L1 (by omega) ?_
        have hL : (splitF (wholeF x)).flatten = wholeF x := splitF_flat _
        have hne := splitF_ne (wholeF x)
        generalize hg : splitF (wholeF x) = ls at hL hne
        have hfl : ls.flatten.length ≤ 4194305 := by rw [hL]; omega
        have hll : ls.length ≤ 4194306 := by
          have : ls.length ≤ ls.flatten.length := len_flatten hne
          omega
        refine opt_in (v := .pv (.agg [lnsP ls, .int .i64 0])) rfl ⟨rfl, ?_⟩
        refine read_spec (ls := ls) L1 hll (fun l hl => ⟨hne l hl, by have := mem_flatten_len hl; omega⟩) hfl (fun hn e a at' => ?_) (fun y hy at' hd hle => ?_)
        · repeat ((with_reducible first | apply opt_in | apply wI | apply wT | apply wP | apply wS | apply wB); exact rfl)
          rw [neq_raw]
          refine opt_in rfl (opt_in (v := false) rfl (isB_in ?_))
          rw [Bool.not_false, condB_true']
          repeat ((with_reducible first | apply opt_in | apply wI | apply wT | apply wP | apply wS | apply wB); exact rfl)
          refine ⟨rfl, rfl, rfl, ?_⟩
          repeat ((with_reducible first | apply opt_in | apply wI | apply wT | apply wP | apply wS | apply wB); exact rfl)
          refine ⟨rfl, rfl, rfl, rfl, rfl, rfl, rfl, ?_⟩
          repeat ((with_reducible first | apply opt_in | apply wI | apply wT | apply wP | apply wS | apply wB); exact rfl)
          refine fin_seal (σ := []) glob0 rfl (r' := .tup [.pv (nmP [] []), .pv (nmP [] []), .pv (.sl []), .pv (.str []), .pv (.int .i64 (IntKind.wrap .i64 ((a : Int) + 1))), .pv (.iface 50 (.int .i64 e))]) rfl ?_
          unfold parseOut parseF
          rw [if_neg (by omega), hg, hn]
          exact ⟨_, _, rfl⟩
        · repeat ((with_reducible first | apply opt_in | apply wI | apply wT | apply wP | apply wS | apply wB); exact rfl)
          rw [neq_raw]
          refine opt_in rfl (opt_in (v := true) rfl (isB_in ?_))
          rw [Bool.not_true, condB_false']
          repeat ((with_reducible first | apply opt_in | apply wI | apply wT | apply wP | apply wS | apply wB); exact rfl)
          refine opt_in (slice_lns hle) ?_
          refine opt_in rfl (isI_in ?_)
          rw [List.length_map]
          have hsum : (ls.take at').flatten.length + y.r.flatten.length = (wholeF x).length := by
            have := congrArg (fun x : List Ln => x.flatten.length) (List.take_append_drop at' ls)
            simp only [List.flatten_append, List.length_append] at this
            rw [hd, hL] at this
            exact this
          refine size_loop (ls.take at') ((ls.take at').flatten.length) (by omega) ?_ (ls.take at') 0 0 rfl (by omega) (by rw [List.length_take]; omega)
          refine parse49 (k := min ((ls.take at').flatten.length) x.length) (by omega) ?_ ?_ rfl
          · split <;> omega
          · unfold parseOut parseF
            rw [if_neg (by omega), hg, hy]
            have e : sizeF x y.r = (ls.take at').flatten.length := by unfold sizeF; omega
            simp only [e]
      refine unified_Parse.n15_in ?_
      rw [unified_Parse.b15_eq, condB_decide]
      refine ite_split (fun g2 => ⟨by simp only [List.length_singleton]; omega, ?_⟩) (fun g2 => ?_)
      · have : wholeF x = x ++ [10] := by unfold wholeF; rw [if_pos g2]
        rw [← this]; exact key
      · have : wholeF x = x := by unfold wholeF; rw [if_neg g2]
        rw [this] at key; exact key
    rw [condB_not, condB_sbeq]
    refine ite_split (fun g2 => ?_) (fun g2 => ?_)
    · generalize hb : false = b
      refine fin b ?_
      rw [← hb, decide_eq_false (fun e => e.1 g2)]
    · refine whole_spec (by omega) (isB_in ?_)
      refine fin _ ?_
      cases hw : wholeB x <;> simp [g2]
end
end Go.Sv
