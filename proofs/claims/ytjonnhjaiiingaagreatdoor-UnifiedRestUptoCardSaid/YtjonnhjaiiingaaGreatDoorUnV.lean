/- What the code of reading answers: a header's name, a hunk's rows. -/
import Derived.Test.YtjonnhjaiiingaaGreatDoorUnU
set_option linter.unusedVariables false
set_option linter.unusedSimpArgs false
set_option maxRecDepth 100000
namespace Go.Sv
open Go Go.RowKit Go.Proofs
section
variable {w0 : Base} {σ : Store} {R : AV → Store → Prop}
abbrev zN : SObj := .cells 23 [.pv (.str []), .pv (.str [])]
abbrev nmO (p s : Ln) : SObj := .cells 23 [.pv (.str p), .pv (.str s)]
abbrev rdr (ls : List Ln) (at_ : Nat) : SObj := .cells 73 [.pv (lnsP ls), .pv (.int .i64 (at_ : Int))]
abbrev S6 (ls : List Ln) (at_ : Nat) : Store := [zN, zN, rdr ls at_, zN, zN, zN]
theorem bare_len {l mark : Ln} (h : Lib.hasPrefix l mark = true) (hm : mark ≠ []) (hw : wholeB mark = false) : mark.length ≤ (bareB l).length := by
  obtain ⟨t, rfl⟩ := List.isPrefixOf_iff_prefix.1 h
  unfold bareB
  cases t with
  | nil =>
    rw [List.append_nil, hw]
    simp
  | cons c t =>
    split
    · rw [List.length_dropLast, List.length_append, List.length_cons]; omega
    · simp
def nameAt (mark : Ln) (ls : List Ln) (at_ : Nat) : Option (Ln × Ln) := match ls[at_]? with
  | some l => nameF mark l
  | none => none
def nameA (o : Option (Ln × Ln)) (at_ : Nat) : AV := match o with
  | some (p, s) => .tup [.pv (nmP p s), .pv (.raw (.pointer none))]
  | none => .tup [.pv (nmP [] []), .ro (.agg [.int .i64 110, .int .i64 (at_ : Int)]) 0]
def nameN (o : Option (Ln × Ln)) (at_ : Nat) : Nat := match o with
  | some _ => at_ + 1
  | none => at_
theorem ln_get {ls : List Ln} {i : Nat} {l : Ln} (h : ls[i]? = some l) : (ls.map PV.str)[i]? = some (.str l) := by rw [List.getElem?_map, h]; rfl
abbrev nS (ls : List Ln) (at_ : Nat) (T : Store) : Store := S6 ls at_ ++ (T ++ [zN, .cells 78 [.pv (.int .i64 110), .pv (.int .i64 (at_ : Int))]])
theorem name17_bad {ls : List Ln} {at_ : Nat} {T : Store} (hT : T = [] ∨ ∃ p s, T = [nmO p s]) (hR : R (nameA none at_) (S6 ls at_ ++ T)) (path rest : Ln) (t : Bool) (ht : t = true) :
    unified_reader_name.n17 (unified_reader_name.X w0 (S6 ls at_ ++ T).length) w0 (S6 ls at_ ++ T).length R (nS ls at_ T) (.ptr 2 0) (.ptr (S6 ls at_ ++ T).length 0) (.ptr ((S6 ls at_ ++ T).length + 1) 0) path rest t := by
  subst ht
  rcases hT with rfl | ⟨p0, s0, rfl⟩
  all_goals
    refine unified_reader_name.n17_in ?_
    rw [unified_reader_name.b17_eq, condB_true']
    repeat ((with_reducible first | apply opt_in | apply wI | apply wT | apply wP | apply wS | apply wB); exact rfl)
    exact fin_ptr (σ := S6 ls at_ ++ _) glob0 rfl rfl hR
theorem name17_good {ls : List Ln} {at_ : Nat} {T : Store} (hT : T = [] ∨ ∃ p s, T = [nmO p s]) (hat : at_ ≤ 8388608) {p s rest : Ln} (e : s = Lib.trimPrefix rest [9]) (hR : R (nameA (some (p, s)) at_) (S6 ls (at_ + 1) ++ T)) (t : Bool) (ht : t = false) :
    unified_reader_name.n17 (unified_reader_name.X w0 (S6 ls at_ ++ T).length) w0 (S6 ls at_ ++ T).length R (nS ls at_ T) (.ptr 2 0) (.ptr (S6 ls at_ ++ T).length 0) (.ptr ((S6 ls at_ ++ T).length + 1) 0) p rest t := by
  subst ht
  subst e
  have wi : IntKind.wrap .i64 ((at_ : Int) + 1) = ((at_ + 1 : Nat) : Int) := by rw [wrap_i64 (by omega) (by omega)]; omega
  rcases hT with rfl | ⟨p0, s0, rfl⟩
  all_goals
    refine unified_reader_name.n17_in ?_
    rw [unified_reader_name.b17_eq, condB_false']
    repeat ((with_reducible first | apply opt_in | apply wI | apply wT | apply wP | apply wS | apply wB); exact rfl)
    refine TrimPrefix_spec (isS_in ?_)
    repeat ((with_reducible first | apply opt_in | apply wI | apply wT | apply wP | apply wS | apply wB); exact rfl)
    rw [wi]
    exact fin_cut (σ := S6 ls (at_ + 1) ++ _) glob0 rfl rfl hR
theorem name_spec (L : Laid w0.w) {mark : Ln} (hm : mark ≠ []) (hw : wholeB mark = false) (hm10 : mark.length ≤ 100) {ls : List Ln} {at_ : Nat} {T : Store} (hT : T = [] ∨ ∃ p s, T = [nmO p s]) (hl : ls.length ≤ 8388608) (hx : ∀ l ∈ ls, l.length ≤ 8388608)
    (hR : R (nameA (nameAt mark ls at_) at_) (S6 ls (nameN (nameAt mark ls at_) at_) ++ T)) : SCalls (cx w0) unified_reader_name.id [.ptr 2 0, .pv (.str mark)] (S6 ls at_ ++ T) R := by
  have hT' := hT
  rcases hT with rfl | ⟨p0, s0, rfl⟩
  all_goals
    refine unified_reader_name.calls ?_
    rw [unified_reader_name.b0_eq]
    repeat ((with_reducible first | apply opt_in | apply wI | apply wT | apply wP | apply wS | apply wB); exact rfl)
    refine ⟨rfl, ?_⟩
    repeat ((with_reducible first | apply opt_in | apply wI | apply wT | apply wP | apply wS | apply wB); exact rfl)
    rw [condB_decide]
    refine ite_split (fun g => ?_) (fun g => ?_)
    · refine unified_reader_name.n7_in ?_
      rw [unified_reader_name.b7_eq, condB_true']
      repeat ((with_reducible first | apply opt_in | apply wI | apply wT | apply wP | apply wS | apply wB); exact rfl)
      have hn : ls[at_]? = none := List.getElem?_eq_none (by rw [List.length_map] at g; omega)
      have e : nameAt mark ls at_ = none := by unfold nameAt; rw [hn]
      rw [e] at hR
      exact fin_ptr (σ := S6 ls at_ ++ _) glob0 rfl rfl hR
    · rw [List.length_map] at g
      obtain ⟨l, hl0⟩ : ∃ l, ls[at_]? = some l := ⟨ls[at_]'(by omega), List.getElem?_eq_getElem (by omega)⟩
      have hll := hx l (List.mem_of_getElem? hl0)
      have hbl := bareB_le l
      have e0 : nameAt mark ls at_ = nameF mark l := by unfold nameAt; rw [hl0]
      rw [e0] at hR
      repeat ((with_reducible first | apply opt_in | apply wI | apply wT | apply wP | apply wS | apply wB); exact rfl)
      refine opt_in (idx_ro tab9 (ln_get hl0) rfl) ?_
      repeat ((with_reducible first | apply opt_in | apply wI | apply wT | apply wP | apply wS | apply wB); exact rfl)
      refine HasPrefix_spec (isB_in ?_)
      cases hp : Lib.hasPrefix l mark with
      | false =>
        refine unified_reader_name.n7_in ?_
        rw [unified_reader_name.b7_eq, Bool.not_false, condB_true']
        repeat ((with_reducible first | apply opt_in | apply wI | apply wT | apply wP | apply wS | apply wB); exact rfl)
        have e : nameF mark l = none := by unfold nameF; rw [if_neg (by rw [hp]; decide)]
        rw [e] at hR
        exact fin_ptr (σ := S6 ls at_ ++ _) glob0 rfl rfl hR
      | true =>
        have hbe := bare_len hp hm hw
        refine unified_reader_name.n7_in ?_
        rw [unified_reader_name.b7_eq, Bool.not_true, condB_false']
        repeat ((with_reducible first | apply opt_in | apply wI | apply wT | apply wP | apply wS | apply wB); exact rfl)
        refine opt_in (idx_ro tab9 (ln_get hl0) rfl) ?_
        repeat ((with_reducible first | apply opt_in | apply wI | apply wT | apply wP | apply wS | apply wB); exact rfl)
        refine bare_spec (by omega) (isS_in ?_)
        refine opt_in (slice_drop hbe) (isS_in ?_)
        refine Unquote_spec L (by rw [List.length_drop]; omega) ?_
        cases hu : unqF ((bareB l).drop mark.length) with
        | none =>
          unfold unqA
          repeat ((with_reducible first | apply opt_in | apply wI | apply wT | apply wP | apply wS | apply wB); exact rfl)
          rw [neq_raw]
          refine opt_in rfl (opt_in (v := false) rfl (isB_in ?_))
          rw [Bool.not_false, condB_true']
          generalize hbt : true = bt
          have e : nameF mark l = none := by unfold nameF; rw [if_pos hp, hu]
          rw [e] at hR
          exact name17_bad hT' hR _ _ bt hbt.symm
        | some q =>
          obtain ⟨p, rest⟩ := q
          unfold unqA
          repeat ((with_reducible first | apply opt_in | apply wI | apply wT | apply wP | apply wS | apply wB); exact rfl)
          rw [neq_raw]
          refine opt_in rfl (opt_in (v := true) rfl (isB_in ?_))
          rw [Bool.not_true, condB_false', condB_not, condB_sbeq]
          refine ite_split (fun g2 => ?_) (fun g2 => ?_)
          · have e : nameF mark l = some (p, []) := by unfold nameF; rw [if_pos hp, hu, g2]
            rw [e] at hR
            generalize hbt : false = bt
            exact name17_good hT' (by omega) (by rw [g2]; rfl) hR bt hbt.symm
          · cases rest with
            | nil => exact absurd rfl g2
            | cons c r =>
              refine opt_in (idx_str (c := c) rfl) (isI_in ?_)
              by_cases hc : c = 9
              · have e : nameF mark l = some (p, r) := by unfold nameF; rw [if_pos hp, hu]; simp [hc]
                rw [e] at hR
                have ht : r = Lib.trimPrefix (c :: r) [9] := by subst hc; simp [Lib.trimPrefix, Lib.hasPrefix, List.isPrefixOf]
                have hb : ((c.toNat : Int) != 9) = false := by subst hc; rfl
                exact name17_good hT' (by omega) ht hR _ hb
              · have e : nameF mark l = none := by unfold nameF; rw [if_pos hp, hu]; simp [hc]
                rw [e] at hR
                have hb : ((c.toNat : Int) != 9) = true := by
                  rw [bne_iff_ne]
                  intro e
                  exact hc (UInt8.toNat_inj.1 (by have : UInt8.toNat 9 = 9 := rfl; omega))
                exact name17_bad hT' hR _ _ _ hb
end
end Go.Sv
