/- The length of a longest common subsequence, by the document's table. What the code of Go functions comes to over abstract stores, piece by piece; each equation by the kernel. Printed by a program of this session. What the code of Go functions comes to over abstract stores, piece by piece; each equation by the kernel. Printed by a program of this session. -/
import Derived.Test.YtimmjplgogpglaaDoorFdD
import Derived.Test.YtimmjplgogpglaaDoorFdC
import Derived.Test.YtimmjplgogpglaaDoorSvT
import Derived.KernelRfl
set_option linter.unusedVariables false
set_option linter.unusedSimpArgs false
set_option maxRecDepth 100000
section
namespace Go.Sv
def tabR (e : Nat → Nat → Bool) (m i : Nat) : List Int := (List.range (m + 1)).map fun j => (lcsF e i j : Int)
def nxR (e : Nat → Nat → Bool) (m i k : Nat) : List Int := (List.range (m + 1)).map fun j => if j ≤ k then (lcsF e (i + 1) j : Int) else 0
theorem tabR_len (e : Nat → Nat → Bool) (m i : Nat) : (tabR e m i).length = m + 1 := by unfold tabR; simp
theorem nxR_len (e : Nat → Nat → Bool) (m i k : Nat) : (nxR e m i k).length = m + 1 := by unfold nxR; simp
theorem tabR_get {e : Nat → Nat → Bool} {m i j : Nat} (h : j ≤ m) : (tabR e m i)[j]? = some (lcsF e i j : Int) := by
  unfold tabR
  rw [List.getElem?_map, List.getElem?_range (by omega)]; rfl
theorem nxR_get {e : Nat → Nat → Bool} {m i k j : Nat} (h : j ≤ m) : (nxR e m i k)[j]? = some (if j ≤ k then (lcsF e (i + 1) j : Int) else 0) := by
  unfold nxR
  rw [List.getElem?_map, List.getElem?_range (by omega)]; rfl
theorem lcsF_zero {e : Nat → Nat → Bool} (j : Nat) : lcsF e 0 j = 0 := by unfold lcsF; rfl
theorem lcsF_left {e : Nat → Nat → Bool} (i : Nat) : lcsF e i 0 = 0 := by cases i <;> (unfold lcsF; rfl)
theorem ext_rows {l l' : List Int} {n : Nat} (h1 : l.length = n) (h2 : l'.length = n) (h : ∀ j, j < n → l[j]? = l'[j]?) : l = l' := by
  refine List.ext_getElem? fun j => ?_
  by_cases hj : j < n
  · exact h j hj
  · rw [List.getElem?_eq_none (by omega), List.getElem?_eq_none (by omega)]
theorem tabR_first (e : Nat → Nat → Bool) (m : Nat) : tabR e m 0 = List.replicate (m + 1) 0 := by
  refine ext_rows (tabR_len e m 0) List.length_replicate fun j hj => ?_
  rw [tabR_get (by omega), lcsF_zero, List.getElem?_replicate, if_pos hj]; rfl
theorem nxR_first (e : Nat → Nat → Bool) (m i : Nat) : nxR e m i 0 = List.replicate (m + 1) 0 := by
  refine ext_rows (nxR_len e m i 0) List.length_replicate fun j hj => ?_
  rw [nxR_get (by omega), List.getElem?_replicate, if_pos hj]
  split
  · rename_i h
    rw [show j = 0 by omega, lcsF_left]; rfl
  · rfl
theorem nxR_last (e : Nat → Nat → Bool) (m i : Nat) : nxR e m i m = tabR e m (i + 1) := by
  refine ext_rows (nxR_len e m i m) (tabR_len e m (i + 1)) fun j hj => ?_
  rw [nxR_get (by omega), tabR_get (by omega), if_pos (by omega)]
theorem nxR_set {e : Nat → Nat → Bool} {m i k : Nat} (h : k < m) : (nxR e m i k).set (k + 1) (lcsF e (i + 1) (k + 1) : Int) = nxR e m i (k + 1) := by
  refine ext_rows (by rw [List.length_set]; exact nxR_len e m i k) (nxR_len e m i (k + 1)) fun j hj => ?_
  rw [nxR_get (by omega)]
  by_cases hk : j = k + 1
  · subst hk
    rw [List.getElem?_set_self (by rw [nxR_len]; exact hj), if_pos (Nat.le_refl _)]
  · rw [List.getElem?_set_ne (fun h => hk h.symm), nxR_get (by omega)]
    by_cases h2 : j ≤ k
    · rw [if_pos h2, if_pos (by omega)]
    · rw [if_neg h2, if_neg (by omega)]
theorem lcsF_hit {e : Nat → Nat → Bool} {i k : Nat} (h : e i k = true) : lcsF e (i + 1) (k + 1) = lcsF e i k + 1 := by rw [lcsF, if_pos h]
theorem lcsF_miss {e : Nat → Nat → Bool} {i k : Nat} (h : e i k = false) : lcsF e (i + 1) (k + 1) = max (lcsF e i (k + 1)) (lcsF e (i + 1) k) := by rw [lcsF, if_neg (by rw [h]; decide)]
theorem lcsF_le (e : Nat → Nat → Bool) (i j : Nat) : lcsF e i j ≤ i + j := by have := lcs_way (e := e) i j; omega
theorem max_if (x y : Nat) : (if (y : Int) > (x : Int) then (y : Int) else (x : Int)) = ((max x y : Nat) : Int) := by
  split <;> omega
section
open Go Go.RowKit Go.Proofs
variable {w0 : Base} {σ : Store} {P : AV → Prop} {a b : List Int}
theorem mk_row {σ : Store} {n : Nat} (h : n ≤ 1099511627776) : aMakeSlice σ ti3 (n : Int) (n : Int) = some (.arr σ.length n 0 n, σ ++ [.arr 1 (iP (List.replicate n 0)) false]) := by
  show (if 0 ≤ (n : Int) ∧ (n : Int) ≤ (n : Int) ∧ roomy (n : Int).toNat 8 ∧ (PV.int .i64 0).cells.length = 1 then some (AV.arr σ.length (n : Int).toNat 0 (n : Int).toNat, σ ++ [SObj.arr 1 (List.replicate (n : Int).toNat (PV.int .i64 0)) false]) else none) = _
  have e : (n : Int).toNat = n := Int.toNat_natCast n
  rw [if_pos ⟨Int.natCast_nonneg n, Int.le_refl _, by rw [e]; exact ⟨by omega, by omega⟩, rfl⟩, e]
  rw [show iP (List.replicate n 0) = List.replicate n (PV.int .i64 0) from List.map_replicate]
abbrev rw8 (w0 : Base) (P : AV → Prop) (a b : List Int) (i : Nat) : Prop := selvageref07_Common.n8 (selvageref07_Common.X w0 0) w0 0 (fun r _ => P r) [.arr 1 (iP (tabR (eqL a b) b.length i)) false] (intsA a) (intsA b) (.arr 0 (b.length + 1) 0 (b.length + 1)) i
abbrev rw23 (w0 : Base) (P : AV → Prop) (a b : List Int) (i k : Nat) : Prop := selvageref07_Common.n23 (selvageref07_Common.X w0 0) w0 0 (fun r _ => P r) [.arr 1 (iP (tabR (eqL a b) b.length i)) false, .arr 1 (iP (nxR (eqL a b) b.length i k)) false] (intsA a) (intsA b) (.arr 0 (b.length + 1) 0 (b.length + 1)) i (.arr 1 (b.length + 1) 0 (b.length + 1)) k
theorem row_loop (ha : a.length ≤ 4194304) (hb : b.length ≤ 4194304) {i : Nat} (hi : i < a.length) (next : rw8 w0 P a b (i + 1)) : ∀ (f k : Nat), k + f = b.length → rw23 w0 P a b i k
  | 0, k, hk => by
    refine selvageref07_Common.n23_in ?_
    rw [selvageref07_Common.b24_eq]
    repeat ((with_reducible first | apply opt_in | apply wI | apply wT | apply wP | apply wS | apply wB); exact rfl)
    rw [List.length_map, condB_decide, if_neg (by omega)]
    refine selvageref07_Common.n38_in ?_
    rw [selvageref07_Common.b38_eq]
    refine selvageref07_Common.n39_in ?_
    rw [selvageref07_Common.b39_eq, wrap_next hi (by omega), show k = b.length by omega, nxR_last]
    refine selvageref07_Common.n8_weak (a' := intsA a) (b' := intsA b) (row' := .arr 0 (b.length + 1) 0 (b.length + 1)) (i' := (i + 1 : Nat)) (EWeak.shift (t := 5) (id := 1) (k := 0) (ver := b.length + 1) (len := b.length + 1) (es := 1) (xs := iP (tabR (eqL a b) b.length (i + 1))) (τ := []) glob0 (Nat.le_refl _) (Nat.zero_le _) rfl (by rw [List.length_map, tabR_len]) (Nat.succ_pos _) rfl rfl rfl rfl rfl) ?_
    exact next
  | f + 1, k, hk => by
    have hk' : k < b.length := by omega
    have ga : a[i]? = some a[i] := List.getElem?_eq_getElem hi
    have gb : b[k]? = some b[k] := List.getElem?_eq_getElem hk'
    have ih := row_loop ha hb hi next f (k + 1) (by omega)
    have l1 : lcsF (eqL a b) i k ≤ 16777216 := Nat.le_trans (lcsF_le _ i k) (by omega)
    have w1 : IntKind.wrap .i64 ((k : Int) + 1) = ((k + 1 : Nat) : Int) := wrap_next hk' (by omega)
    have h37 : ∀ v : Int, v = (lcsF (eqL a b) (i + 1) (k + 1) : Int) → selvageref07_Common.n37 (selvageref07_Common.X w0 0) w0 0 (fun r _ => P r) [.arr 1 (iP (tabR (eqL a b) b.length i)) false, .arr 1 (iP ((nxR (eqL a b) b.length i k).set (k + 1) v)) false] (intsA a) (intsA b) (.arr 0 (b.length + 1) 0 (b.length + 1)) i (.arr 1 (b.length + 1) 0 (b.length + 1)) k := by
      rintro v rfl
      refine selvageref07_Common.n37_in ?_
      rw [selvageref07_Common.b37_eq, nxR_set hk', w1]
      exact ih
    refine selvageref07_Common.n23_in ?_
    rw [selvageref07_Common.b24_eq]
    repeat ((with_reducible first | apply opt_in | apply wI | apply wT | apply wP | apply wS | apply wB); exact rfl)
    rw [List.length_map, condB_decide, if_pos (by omega)]
    refine opt_in (idx_ro tab3 (int_get ga) rfl) ?_
    repeat ((with_reducible first | apply opt_in | apply wI | apply wT | apply wP | apply wS | apply wB); exact rfl)
    refine opt_in (idx_ro tab3 (int_get gb) rfl) ?_
    repeat ((with_reducible first | apply opt_in | apply wI | apply wT | apply wP | apply wS | apply wB); exact rfl)
    rw [condB_ibeq, w1]
    refine ite_split (fun g => ?_) (fun g => ?_)
    · have he : eqL a b i k = true := by
        unfold eqL
        rw [ga, gb, g]; simp
      refine opt_in (arr_idx (i := 0) (c := tabR (eqL a b) b.length i) (fz := false) rfl (tabR_len _ _ _) (by omega)) ?_
      refine opt_in (arr_load (i := 0) (c := tabR (eqL a b) b.length i) (fz := false) rfl (tabR_len _ _ _) (tabR_get (by omega))) (isI_in ?_)
      refine opt_in (arr_idx (i := 1) (c := nxR (eqL a b) b.length i k) (fz := false) rfl (nxR_len _ _ _ _) (by omega)) ?_
      refine opt_in (arr_store (i := 1) (c := nxR (eqL a b) b.length i k) rfl (nxR_len _ _ _ _) (nxR_get (by omega))) ?_
      refine h37 _ ?_
      rw [lcsF_hit he, wrap_i64 (by omega) (by omega)]
      omega
    · have he : eqL a b i k = false := by
        unfold eqL
        rw [ga, gb]; simpa using g
      refine opt_in (arr_idx (i := 0) (c := tabR (eqL a b) b.length i) (fz := false) rfl (tabR_len _ _ _) (by omega)) ?_
      refine opt_in (arr_load (i := 0) (c := tabR (eqL a b) b.length i) (fz := false) rfl (tabR_len _ _ _) (tabR_get (by omega))) (isI_in ?_)
      refine opt_in (arr_idx (i := 1) (c := nxR (eqL a b) b.length i k) (fz := false) rfl (nxR_len _ _ _ _) (by omega)) ?_
      refine opt_in (arr_load (i := 1) (c := nxR (eqL a b) b.length i k) (fz := false) rfl (nxR_len _ _ _ _) (nxR_get (by omega))) (isI_in ?_)
      refine opt_in (arr_idx (i := 1) (c := nxR (eqL a b) b.length i k) (fz := false) rfl (nxR_len _ _ _ _) (by omega)) ?_
      refine opt_in (arr_store (i := 1) (c := nxR (eqL a b) b.length i k) rfl (nxR_len _ _ _ _) (nxR_get (by omega))) ?_
      refine h37 _ ?_
      rw [lcsF_miss he, if_pos (Nat.le_refl _)]
      exact max_if _ _
theorem tab_loop (ha : a.length ≤ 4194304) (hb : b.length ≤ 4194304) (hP : P (.pv (.int .i64 (lcsL a b : Int)))) : ∀ (f i : Nat), i + f = a.length → rw8 w0 P a b i
  | 0, i, hi => by
    refine selvageref07_Common.n8_in ?_
    rw [selvageref07_Common.b9_eq]
    repeat ((with_reducible first | apply opt_in | apply wI | apply wT | apply wP | apply wS | apply wB); exact rfl)
    rw [List.length_map, condB_decide, if_neg (by omega)]
    refine selvageref07_Common.n40_in ?_
    rw [selvageref07_Common.b40_eq]
    repeat ((with_reducible first | apply opt_in | apply wI | apply wT | apply wP | apply wS | apply wB); exact rfl)
    rw [List.length_map]
    refine opt_in (arr_idx (i := 0) (c := tabR (eqL a b) b.length i) (fz := false) rfl (tabR_len _ _ _) (by omega)) ?_
    refine opt_in (arr_load (i := 0) (c := tabR (eqL a b) b.length i) (fz := false) rfl (tabR_len _ _ _) (tabR_get (Nat.le_refl _))) (isI_in ?_)
    rw [show i = a.length by omega]
    exact fin_cut (σ := []) (L := [.arr 1 (iP (tabR (eqL a b) b.length a.length)) false]) glob0 rfl rfl hP
  | f + 1, i, hi => by
    have ih := tab_loop ha hb hP f (i + 1) (by omega)
    refine selvageref07_Common.n8_in ?_
    rw [selvageref07_Common.b9_eq]
    repeat ((with_reducible first | apply opt_in | apply wI | apply wT | apply wP | apply wS | apply wB); exact rfl)
    rw [List.length_map, condB_decide, if_pos (by omega)]
    repeat ((with_reducible first | apply opt_in | apply wI | apply wT | apply wP | apply wS | apply wB); exact rfl)
    rw [List.length_map, wrap_next (k := b.length) (n := 4194305) (by omega) (by omega)]
    refine opt2_in (mk_row (by omega)) ?_
    have := row_loop (w0 := w0) (P := P) ha hb (i := i) (by omega) ih b.length 0 (Nat.zero_add _)
    unfold rw23 at this
    rw [nxR_first] at this
    exact this
theorem rCommon_spec {R : AV → Store → Prop} (L : Laid w0.w) (ha : a.length ≤ 4194304) (hb : b.length ≤ 4194304) (hR : R (.pv (.int .i64 (lcsL a b : Int))) σ) : SCalls (cx w0) selvageref07_Common.id [intsA a, intsA b] σ R := by
  refine SCalls.alone L rfl (fun w1 L1 => ?_) rfl hR
  refine selvageref07_Common.calls ?_
  rw [selvageref07_Common.b0_eq]
  repeat ((with_reducible first | apply opt_in | apply wI | apply wT | apply wP | apply wS | apply wB); exact rfl)
  rw [List.length_map, wrap_next (k := b.length) (n := 4194305) (by omega) (by omega)]
  refine opt2_in (mk_row (by omega)) ?_
  have := tab_loop (w0 := w1) (P := fun r' => r' = .pv (.int .i64 (lcsL a b : Int))) ha hb rfl a.length 0 (Nat.zero_add _)
  unfold rw8 at this
  rw [tabR_first] at this
  exact this
end
end Go.Sv
end
section
namespace Go.Sv
open Go Go.Proofs
namespace selvagelaw25_num
def lvs : List (List Nat) := [[0], [0], [0], [0], [0, 3], [0, 3], [0, 3], [0, 3, 5], [], [], [2], [0, 3], [0, 3], [0, 3], [0, 3], [3, 8], [3], [3], [2], [], [], [], [2]]
def lv : Nat → List Nat := lvOf lvs
noncomputable def code : Code := bodyOf Tryd.f7
noncomputable def fe : FE := ⟨Tryd.f7, code, lv⟩
def cuts : List Nat := []
abbrev X (w0 : Base) (n : Nat) : XT := xr (cx w0) 10 lv n
theorem ok (w0 : Base) : FOK (cx w0) selvagelaw25_num.id fe := ⟨Tryd.func7, by kernel_rfl, by kernel_rfl⟩
section
variable (Z : XT) (w0 : Base) (n : Nat) (R : RT) (σ : Store) (e_ : AV)
def b0 : Prop :=
  pcodeX (cx w0) 10 lv n cuts Z code 0 (argsE 0 [e_]) σ (finQ (cx w0) Tryd.f7 n R)
end
variable {Z : XT} {w0 : Base} {n : Nat} {R : RT} {σ τ : Store} {e_ : AV}
theorem b0_eq : b0 Z w0 n R σ e_ = (
  aBinK tabS 23 true .eql e_ (.pv (.raw .nilIface)) fun v => isB v fun b => condB b (FinK (cx w0) n (.pv (.int .i64 0)) (σ ++ [.cells 42 (AV.ofValue ti42.zero).cells]) R) (opt (aMakeInterface 52 (.ptr (List.length σ) 0)) fun t7 => SCalls (cx w0) errors_As.id [e_, t7] (σ ++ [.cells 42 (AV.ofValue ti42.zero).cells]) fun r σ' => isB r fun t8 => condB t8 (opt (aLoad σ' ti42 (.ptr (List.length σ) 0)) fun t9 => isI .i64 t9 fun t9_1 => FinK (cx w0) n (.pv (.int .i64 t9_1)) σ' R) (FinK (cx w0) n (.pv (.int .i64 (-1))) σ' R))) := by kernel_rfl
theorem calls (h : b0 (X w0 (List.length σ)) w0 (List.length σ) R σ e_) : SCalls (cx w0) selvagelaw25_num.id [e_] σ R :=
  xr_enter (cxOK w0) (x := fe) (S := cuts) (selvagelaw25_num.ok w0) (by kernel_rfl) h
attribute [irreducible] b0
end selvagelaw25_num
namespace selvagelaw25_FilediffSimilar
variable {Z : XT} {w0 : Base} {n : Nat} {R : RT} {σ τ : Store} {a b : List UInt8} {p f : Int} {t31 t4 : Bool}
end selvagelaw25_FilediffSimilar
end Go.Sv
end
section
namespace Go.Sv
open Go Go.Proofs
namespace selvagelaw25_moved
def lvs : List (List Nat) := [[], [], [], [], [1, 2], [1, 2], [1, 2, 3, 4], [1, 2, 3, 4], [1, 2, 3, 4, 6], [1, 2, 3, 4, 6], [0]]
def lv : Nat → List Nat := lvOf lvs
noncomputable def code : Code := bodyOf Tryd.f8
noncomputable def fe : FE := ⟨Tryd.f8, code, lv⟩
theorem ok (w0 : Base) : FOK (cx w0) selvagelaw25_moved.id fe := ⟨Tryd.func8, by kernel_rfl, by kernel_rfl⟩
end selvagelaw25_moved
end Go.Sv
end
