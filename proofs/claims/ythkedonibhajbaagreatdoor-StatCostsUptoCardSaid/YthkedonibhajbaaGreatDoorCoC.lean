/- The document's layers 1 and 10: lines that may be, rows put behind others, the hunk of a group of changes. -/
import Derived.Test.YthkedonibhajbaaGreatDoorFnL
import Derived.Test.YthkedonibhajbaaGreatDoorCoB
set_option linter.unusedVariables false
set_option linter.unusedSimpArgs false
set_option maxRecDepth 100000
namespace Go.Sv
open Go Go.RowKit Go.Proofs
def vT : List (List UInt8) → Bool
  | [] => true
  | t :: r => lineB t && (r.isEmpty || wholeB t) && vT r
theorem vT_ok : ∀ {A : List (List UInt8)}, vT A = true → okT A
  | [], _, i, t, h => by simp at h
  | u :: r, hv, i, t, h => by
    simp only [vT, Bool.and_eq_true, Bool.or_eq_true] at hv
    obtain ⟨⟨h1, h2⟩, h3⟩ := hv
    cases i with
    | zero =>
      simp at h; subst h
      refine ⟨h1, fun hl => ?_⟩
      rcases h2 with h2 | h2
      · rw [List.isEmpty_iff] at h2; subst h2; simp at hl
      · exact h2
    | succ i =>
      obtain ⟨g1, g2⟩ := vT_ok h3 i t (by simpa using h)
      exact ⟨g1, fun hl => g2 (by simpa using hl)⟩
abbrev strsP (l : List (List UInt8)) : PV := .sl (l.map PV.str)
section
variable {w0 : Base} {σ : Store} {R : AV → Store → Prop}
theorem rv_inner (xs : List PV) (i : Nat) (t : List UInt8) (ht : t.length ≤ 140737488355328) (hi : xs[i]? = some (.str t)) (v : Bool) (h1 : t.dropLast.contains 10 = true → v = false)
    (h2 : t.dropLast.contains 10 = false → selvageref01_Valid.n38 (selvageref01_Valid.X w0 0) w0 0 (fun r' _ => r' = .pv (.bool v)) [] (.pv (.sl xs)) i t.length) : ∀ (r : List UInt8) (k : Nat), t.drop k = r → t.dropLast.contains 10 = r.dropLast.contains 10 →
    selvageref01_Valid.n21 (selvageref01_Valid.X w0 0) w0 0 (fun r' _ => r' = .pv (.bool v)) [] (.pv (.sl xs)) i t.length k
  | [], k, h, hc => by
    have hk := drop_end h
    refine selvageref01_Valid.n21_in ?_
    rw [selvageref01_Valid.b22_eq, condB_decide, wrap_i64 (by omega) (by omega), if_neg (by omega)]
    exact h2 hc
  | [c], k, h, hc => by
    obtain ⟨_, g2, hk⟩ := drop_facts h
    have := drop_end g2
    refine selvageref01_Valid.n21_in ?_
    rw [selvageref01_Valid.b22_eq, condB_decide, wrap_i64 (by omega) (by omega), if_neg (by omega)]
    exact h2 hc
  | c :: d :: r, k, h, hc => by
    obtain ⟨g1, g2, hk⟩ := drop_facts h
    obtain ⟨_, _, hk2⟩ := drop_facts g2
    refine selvageref01_Valid.n21_in ?_
    rw [selvageref01_Valid.b22_eq, condB_decide, wrap_i64 (by omega) (by omega), if_pos (by omega)]
    refine opt_in (idx_ro tab9 hi rfl) ?_
    repeat (first | ((with_reducible show opt _ _); refine opt_in rfl ?_) | ((with_reducible show isI _ _ _); refine isI_in ?_) | ((with_reducible show isTup _ _); refine isTup_in ?_) | ((with_reducible show isS _ _); refine isS_in ?_) | ((with_reducible show isB _ _); refine isB_in ?_))
    refine opt_in (idx_str g1) (isI_in ?_)
    rw [condB_ibeq]
    simp only [List.dropLast_cons_cons, List.contains_cons] at hc
    refine ite_split (fun g => fin_keep (Nat.zero_le _) ?_) (fun g => ?_)
    · rw [(toNat_ten c).1 g] at hc
      rw [h1 (by simpa using hc)]
    · rw [toNat_ten] at g
      have e : ((10 : UInt8) == c) = false := beq_false_of_ne (Ne.symm g)
      rw [e, Bool.false_or] at hc
      rw [wrap_next hk (by omega)]
      exact rv_inner xs i t ht hi v h1 h2 (d :: r) (k + 1) g2 hc
theorem rv_loop (xs : List PV) (hx : xs.length ≤ 140737488355328) : ∀ (r : List (List UInt8)) (i : Nat), xs.drop i = r.map PV.str → xs.length = i + r.length → (∀ t ∈ r, t.length ≤ 140737488355328) →
    selvageref01_Valid.n6 (selvageref01_Valid.X w0 0) w0 0 (fun r' _ => r' = .pv (.bool (vT r))) [] (.pv (.sl xs)) i
  | [], i, h, hl, _ => by
    have hk := drop_end h
    refine selvageref01_Valid.n6_in ?_
    rw [selvageref01_Valid.b7_eq]
    repeat (first | ((with_reducible show opt _ _); refine opt_in rfl ?_) | ((with_reducible show isI _ _ _); refine isI_in ?_) | ((with_reducible show isTup _ _); refine isTup_in ?_) | ((with_reducible show isS _ _); refine isS_in ?_) | ((with_reducible show isB _ _); refine isB_in ?_))
    rw [condB_decide, if_neg (by omega)]
    refine selvageref01_Valid.n46_in ?_
    rw [selvageref01_Valid.b46_eq]
    exact fin_keep (Nat.zero_le _) rfl
  | t :: r, i, h, hl, hb => by
    obtain ⟨h1, h2, hk⟩ := drop_facts h
    have ht := hb t (by simp)
    simp only [List.length_cons] at hl
    have key : ∀ u, u = !(lineB t && (r.isEmpty || wholeB t)) → selvageref01_Valid.n40 (selvageref01_Valid.X w0 0) w0 0 (fun r' _ => r' = .pv (.bool (vT (t :: r)))) [] (.pv (.sl xs)) i u := by
      intro u hu
      refine selvageref01_Valid.n40_in ?_
      rw [selvageref01_Valid.b40_eq]
      refine condB_split (fun g => fin_keep (Nat.zero_le _) ?_) (fun g => ?_)
      · rw [hu, Bool.not_eq_true'] at g
        simp only [vT, g]; rfl
      · rw [hu, Bool.not_eq_false'] at g
        refine selvageref01_Valid.n45_in ?_
        rw [selvageref01_Valid.b45_eq, wrap_next hk (by omega)]
        have e : vT (t :: r) = vT r := by simp only [vT, g, Bool.true_and]
        rw [e]
        exact rv_loop xs hx r (i + 1) h2 (by omega) (fun x hx => hb x (List.mem_cons_of_mem _ hx))
    refine selvageref01_Valid.n6_in ?_
    rw [selvageref01_Valid.b7_eq]
    repeat (first | ((with_reducible show opt _ _); refine opt_in rfl ?_) | ((with_reducible show isI _ _ _); refine isI_in ?_) | ((with_reducible show isTup _ _); refine isTup_in ?_) | ((with_reducible show isS _ _); refine isS_in ?_) | ((with_reducible show isB _ _); refine isB_in ?_))
    rw [condB_decide, if_pos (by omega)]
    refine opt_in (idx_ro tab9 h1 rfl) ?_
    repeat (first | ((with_reducible show opt _ _); refine opt_in rfl ?_) | ((with_reducible show isI _ _ _); refine isI_in ?_) | ((with_reducible show isTup _ _); refine isTup_in ?_) | ((with_reducible show isS _ _); refine isS_in ?_) | ((with_reducible show isB _ _); refine isB_in ?_))
    refine rv_inner xs i t ht h1 _ (fun hc => ?_) (fun hc => ?_) t 0 rfl rfl
    · simp only [vT, lineB, hc, Bool.not_true, Bool.and_false, Bool.false_and]
    refine selvageref01_Valid.n38_in ?_
    rw [selvageref01_Valid.b38_eq, condB_ibeq]
    refine ite_split (fun g => key _ ?_) (fun g => ?_)
    · have : t = [] := List.length_eq_zero_iff.1 (by omega)
      subst this; rfl
    have hne : t ≠ [] := fun e => g (by rw [e]; rfl)
    have hline : lineB t = true := by
      unfold lineB
      rw [hc, beq_false_of_ne hne]; rfl
    repeat (first | ((with_reducible show opt _ _); refine opt_in rfl ?_) | ((with_reducible show isI _ _ _); refine isI_in ?_) | ((with_reducible show isTup _ _); refine isTup_in ?_) | ((with_reducible show isS _ _); refine isS_in ?_) | ((with_reducible show isB _ _); refine isB_in ?_))
    rw [wrap_i64 (n := (xs.length : Int) - 1) (by omega) (by omega), condB_decide]
    refine ite_split (fun g2 => ?_) (fun g2 => ?_)
    · refine opt_in (idx_ro tab9 h1 rfl) ?_
      repeat (first | ((with_reducible show opt _ _); refine opt_in rfl ?_) | ((with_reducible show isI _ _ _); refine isI_in ?_) | ((with_reducible show isTup _ _); refine isTup_in ?_) | ((with_reducible show isS _ _); refine isS_in ?_) | ((with_reducible show isB _ _); refine isB_in ?_))
      have hp : 0 < t.length := by omega
      rw [wrap_i64 (n := (t.length : Int) - 1) (by omega) (by omega), show ((t.length : Int) - 1) = ((t.length - 1 : Nat) : Int) by omega]
      have hlst : t[t.length - 1]? = some (t.getLast hne) := by
        rw [List.getLast_eq_getElem]; exact List.getElem?_eq_getElem _
      refine opt_in (idx_str hlst) (isI_in (key _ ?_))
      have hre : r.isEmpty = false := by
        cases r with
        | nil => simp at hl; omega
        | cons _ _ => rfl
      rw [hline, hre, Bool.true_and, Bool.false_or]
      unfold wholeB
      rw [List.getLast?_eq_some_getLast hne]
      show (!((t.getLast hne).toNat : Int) == 10) = !(t.getLast hne == 10)
      congr 1
      rw [Bool.eq_iff_iff, beq_iff_eq, beq_iff_eq]
      exact toNat_ten _
    · have hre : r.isEmpty = true := by
        cases r with
        | nil => rfl
        | cons _ _ => simp at hl; omega
      have e : false = !(lineB t && (r.isEmpty || wholeB t)) := by rw [hline, hre]; rfl
      revert e
      generalize (false : Bool) = u
      intro e
      exact key u e
theorem rvT_spec (L : Laid w0.w) {A : List (List UInt8)} (hA : A.length ≤ 140737488355328) (hb : ∀ t ∈ A, t.length ≤ 140737488355328) (hR : R (.pv (.bool (vT A))) σ) : SCalls (cx w0) selvageref01_Valid.id [.pv (strsP A)] σ R := by
  refine SCalls.alone L rfl (fun w1 L1 => ?_) rfl hR
  refine selvageref01_Valid.calls ?_
  rw [selvageref01_Valid.b0_eq]
  exact rv_loop (A.map PV.str) (by simpa using hA) A 0 rfl (by simp) hb
theorem put_loop (id : Nat) (hid : id < σ.length) (kind : Int) (xs : List PV) (hx : xs.length ≤ 4294967296) : ∀ (r : List (List UInt8)) (i : Nat) (acc : List Row), xs.drop i = r.map PV.str → acc.length + r.length ≤ 4294967296 →
    R (.arr id (acc ++ kindR kind r).length 0 (acc ++ kindR kind r).length) (σ.set id (.arr 2 ((acc ++ kindR kind r).map rowP) false)) →
    selvageref10_put.n6 (selvageref10_put.X w0 σ.length) w0 σ.length R (σ.set id (.arr 2 (acc.map rowP) false)) (.arr id acc.length 0 acc.length) kind (.pv (.sl xs)) i
  | [], i, acc, h, hl, hR => by
    have hk := drop_end h
    refine selvageref10_put.n6_in ?_
    rw [selvageref10_put.b7_eq]
    repeat (first | ((with_reducible show opt _ _); refine opt_in rfl ?_) | ((with_reducible show isI _ _ _); refine isI_in ?_) | ((with_reducible show isTup _ _); refine isTup_in ?_) | ((with_reducible show isS _ _); refine isS_in ?_) | ((with_reducible show isB _ _); refine isB_in ?_))
    rw [condB_decide, if_neg (by omega)]
    refine selvageref10_put.n17_in ?_
    rw [selvageref10_put.b17_eq]
    refine fin_keep (by simp) ?_
    simpa [kindR] using hR
  | t :: r, i, acc, h, hl, hR => by
    obtain ⟨h1, h2, hk⟩ := drop_facts h
    simp only [List.length_cons] at hl
    refine selvageref10_put.n6_in ?_
    rw [selvageref10_put.b7_eq]
    repeat (first | ((with_reducible show opt _ _); refine opt_in rfl ?_) | ((with_reducible show isI _ _ _); refine isI_in ?_) | ((with_reducible show isTup _ _); refine isTup_in ?_) | ((with_reducible show isS _ _); refine isS_in ?_) | ((with_reducible show isB _ _); refine isB_in ?_))
    rw [condB_decide, if_pos (by omega)]
    refine opt_in (idx_ro tab9 h1 rfl) ?_
    repeat (first | ((with_reducible show opt _ _); refine opt_in rfl ?_) | ((with_reducible show isI _ _ _); refine isI_in ?_) | ((with_reducible show isTup _ _); refine isTup_in ?_) | ((with_reducible show isS _ _); refine isS_in ?_) | ((with_reducible show isB _ _); refine isB_in ?_))
    refine opt2_in rfl ?_
    refine opt2_in (append_pv (xs := acc.map rowP) (ys := [rowP ⟨kind, t⟩]) rfl (List.getElem?_set_self hid) (by simp) rfl rfl ?_) ?_
    · rw [List.length_map]
      show (acc.length + 1 ≤ _ ∧ (acc.length + 1) * 24 ≤ _)
      omega
    rw [wrap_next hk (by omega), List.set_set]
    have e : acc ++ kindR kind (t :: r) = (acc ++ [⟨kind, t⟩]) ++ kindR kind r := by simp [kindR]
    rw [e] at hR
    have := put_loop id hid kind xs hx r (i + 1) (acc ++ [⟨kind, t⟩]) h2 (by simp; omega) hR
    rw [show (acc ++ [(⟨kind, t⟩ : Row)]).length = (acc.map rowP).length + [rowP ⟨kind, t⟩].length by simp, List.map_append, List.map_cons, List.map_nil] at this
    exact this
theorem put_spec {id : Nat} {rows : List Row} {kind : Int} {l : List (List UInt8)} (ho : σ[id]? = some (.arr 2 (rows.map rowP) false)) (hl : rows.length + l.length ≤ 4294967296)
    (hR : R (.arr id (rows ++ kindR kind l).length 0 (rows ++ kindR kind l).length) (σ.set id (.arr 2 ((rows ++ kindR kind l).map rowP) false))) : SCalls (cx w0) selvageref10_put.id [.arr id rows.length 0 rows.length, .pv (.int .i64 kind), .pv (strsP l)] σ R := by
  refine selvageref10_put.calls ?_
  rw [selvageref10_put.b0_eq]
  have := put_loop (w0 := w0) (R := R) id (List.getElem?_eq_some_iff.1 ho).1 kind (l.map PV.str) (by rw [List.length_map]; omega) l 0 rows rfl hl hR
  rw [set_self ho] at this
  exact this
theorem stated_spec {p : Nat} {m : Int} (hp : p ≤ 4294967296) (hR : R (.pv (.int .i64 (stated p m))) σ) : SCalls (cx w0) selvageref10_stated.id [.pv (.int .i64 (p : Nat)), .pv (.int .i64 m)] σ R := by
  refine selvageref10_stated.calls ?_
  rw [selvageref10_stated.b0_eq, condB_decide, wrap_i64 (by omega) (by omega)]
  unfold stated at hR
  refine ite_split (fun g => fin_same ?_) (fun g => fin_same ?_)
  · rw [if_pos g] at hR; exact hR
  · rw [if_neg g] at hR; exact hR
/-- An element of an array of the call's own, whole. -/
theorem load_eptr_agg {σ : Store} {ti : TI} {id es ver i : Nat} {xs : List PV} {fz : Bool} {cs : List PV} (ho : σ[id]? = some (.arr es xs fz)) (hv : xs.length = ver) (hi : xs[i]? = some (.agg cs)) (ha : ti.td.isAgg = true) (hs : cs.length = ti.size) : aLoad σ ti (.eptr id ver i 0) = some (.pv (.agg cs)) := by
  simp only [aLoad, ho, if_pos hv, hi, partP, ha, if_true]
  rw [if_pos ⟨trivial, hs⟩]
  rfl
/-- How many rows there are, of an array of the caller's own. -/
theorem counts_arr (L : Laid w0.w) (id : Nat) (l : List Row) (ho : σ[id]? = some (.arr 2 (l.map rowP) false)) (hx : l.length ≤ 140737488355328) : ∀ (r : List Row) (k : Nat) (a b : Int), l.drop k = r → R (.tup [.pv (.int .i64 (cntF isOld r a)), .pv (.int .i64 (cntF isNew r b))]) σ → selvageref10_Counts.n8 (selvageref10_Counts.X w0 σ.length) w0 σ.length R σ (.arr id l.length 0 l.length) a b k
  | [], k, a, b, h, hR => by
    have hk := drop_end h
    refine selvageref10_Counts.n8_in ?_
    rw [selvageref10_Counts.b9_eq]
    repeat (first | ((with_reducible show opt _ _); refine opt_in rfl ?_) | ((with_reducible show isI _ _ _); refine isI_in ?_) | ((with_reducible show isTup _ _); refine isTup_in ?_) | ((with_reducible show isS _ _); refine isS_in ?_) | ((with_reducible show isB _ _); refine isB_in ?_))
    rw [condB_decide, if_neg (by omega)]
    refine selvageref10_Counts.n29_in ?_
    rw [selvageref10_Counts.b29_eq]
    exact fin_same hR
  | c :: r, k, a, b, h, hR => by
    obtain ⟨h1, h2, hk⟩ := drop_facts h
    have hm : (l.map rowP)[k]? = some (rowP c) := by rw [List.getElem?_map, h1]; rfl
    have idx : aIndexAddr σ tabS ti49.td (.arr id l.length 0 l.length) (k : Int) = some (.eptr id l.length (0 + k) 0) := idx_arr (xs := l.map rowP) tab61 ho hk rfl (List.length_map _)
    rw [Nat.zero_add] at idx
    have ld : aLoad σ ti61 (.eptr id l.length k 0) = some (.pv (rowP c)) := load_eptr_agg ho (List.length_map _) hm rfl rfl
    simp only [cntF] at hR
    refine selvageref10_Counts.n8_in ?_
    rw [selvageref10_Counts.b9_eq]
    repeat (first | ((with_reducible show opt _ _); refine opt_in rfl ?_) | ((with_reducible show isI _ _ _); refine isI_in ?_) | ((with_reducible show isTup _ _); refine isTup_in ?_) | ((with_reducible show isS _ _); refine isS_in ?_) | ((with_reducible show isB _ _); refine isB_in ?_))
    rw [condB_decide, if_pos (by omega)]
    refine opt_in idx (opt_in ld ?_)
    refine old_spec L (isB_in ?_)
    have next : ∀ a', a' = (if isOld c.k = true then IntKind.wrap .i64 (a + 1) else a) → selvageref10_Counts.n23 (selvageref10_Counts.X w0 σ.length) w0 σ.length R σ (.arr id l.length 0 l.length) a' b k := by
      rintro a' rfl
      refine selvageref10_Counts.n23_in ?_
      rw [selvageref10_Counts.b23_eq]
      refine opt_in idx (opt_in ld ?_)
      refine fresh_spec L (isB_in ?_)
      have next2 : ∀ b', b' = (if isNew c.k = true then IntKind.wrap .i64 (b + 1) else b) → selvageref10_Counts.n28 (selvageref10_Counts.X w0 σ.length) w0 σ.length R σ (.arr id l.length 0 l.length) (if isOld c.k = true then IntKind.wrap .i64 (a + 1) else a) b' k := by
        rintro b' rfl
        refine selvageref10_Counts.n28_in ?_
        rw [selvageref10_Counts.b28_eq, wrap_next hk (by omega)]
        exact counts_arr L id l ho hx r (k + 1) _ _ h2 hR
      exact condB_split (fun g => next2 _ (by rw [if_pos g])) (fun g => next2 _ (by rw [if_neg (by rw [g]; decide)]))
    exact condB_split (fun g => next _ (by rw [if_pos g])) (fun g => next _ (by rw [if_neg (by rw [g]; decide)]))
theorem countsA_spec (L : Laid w0.w) {id : Nat} {l : List Row} (ho : σ[id]? = some (.arr 2 (l.map rowP) false)) (hl : l.length ≤ 140737488355328) (hR : R (.tup [.pv (.int .i64 (cntF isOld l 0)), .pv (.int .i64 (cntF isNew l 0))]) σ) : SCalls (cx w0) selvageref10_Counts.id [.arr id l.length 0 l.length] σ R := by
  refine selvageref10_Counts.calls ?_
  rw [selvageref10_Counts.b0_eq]
  exact counts_arr L id l ho hl l 0 0 0 rfl hR
end
end Go.Sv
