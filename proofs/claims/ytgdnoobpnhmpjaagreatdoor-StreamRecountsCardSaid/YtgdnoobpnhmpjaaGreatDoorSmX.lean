/- A text's lines, on both sides. -/
import Derived.Test.YtgdnoobpnhmpjaaGreatDoorSmU
set_option linter.unusedVariables false
set_option linter.unusedSimpArgs false
set_option maxRecDepth 100000
namespace Go.Sv
def splitF : List UInt8 → List (List UInt8)
  | [] => []
  | c :: r => if c = 10 then [10] :: splitF r else match splitF r with
    | [] => [[c]]
    | l :: ls => (c :: l) :: ls
theorem splitF_flat : ∀ s : List UInt8, (splitF s).flatten = s
  | [] => rfl
  | c :: r => by
    have ih := splitF_flat r
    unfold splitF
    split
    · rename_i h; subst h; simp [ih]
    · split
      · rename_i h; rw [h] at ih; simp at ih; subst ih; rfl
      · rename_i l ls h; rw [h] at ih; simp only [List.flatten_cons, List.cons_append] at ih ⊢; rw [ih]
theorem splitF_len : ∀ s : List UInt8, (splitF s).length ≤ s.length
  | [] => Nat.le_refl _
  | c :: r => by
    have ih := splitF_len r
    unfold splitF
    split
    · simp only [List.length_cons]; omega
    · split
      · simp
      · rename_i l ls h; rw [h] at ih; simp only [List.length_cons] at ih ⊢; omega
theorem splitF_cut : ∀ (k : Nat) (t : List UInt8), t[k]? = some 10 → (∀ j, j < k → t[j]? ≠ some 10) → splitF t = t.take (k + 1) :: splitF (t.drop (k + 1))
  | 0, [], h, _ => by simp at h
  | 0, c :: r, h, _ => by
    simp only [List.getElem?_cons_zero, Option.some.injEq] at h
    subst h
    simp [splitF]
  | k + 1, [], h, _ => by simp at h
  | k + 1, c :: r, h, hn => by
    have hc : c ≠ 10 := fun e => hn 0 (Nat.zero_lt_succ _) (by rw [e]; rfl)
    have ih := splitF_cut k r (by simpa using h) (fun j hj => by have := hn (j + 1) (by omega); simpa using this)
    rw [splitF, if_neg hc, ih]
    rfl
theorem splitF_rest : ∀ (t : List UInt8), t ≠ [] → (∀ j : Nat, t[j]? ≠ some 10) → splitF t = [t]
  | [], h, _ => absurd rfl h
  | [c], _, hn => by
    have hc : c ≠ 10 := fun e => hn 0 (by rw [e]; rfl)
    simp [splitF, hc]
  | c :: d :: r, _, hn => by
    have hc : c ≠ 10 := fun e => hn 0 (by rw [e]; rfl)
    have ih := splitF_rest (d :: r) (by simp) (fun j => by have := hn (j + 1); simpa using this)
    rw [splitF, if_neg hc, ih]
theorem splitF_first : ∀ (s : List UInt8), s ≠ [] → ∃ k : Nat, 0 < k ∧ k ≤ s.length ∧ (if Lib.indexByte s 10 = -1 then (s.length : Int) else Lib.indexByte s 10 + 1) = (k : Int) ∧ splitF s = s.take k :: splitF (s.drop k)
  | [], h => absurd rfl h
  | c :: r, _ => by
    have hge := Lib.indexByte_ge r 10
    rw [Lib.indexByte]
    by_cases hc : c = 10
    · subst hc
      exact ⟨1, by decide, by simp, by simp, by simp [splitF]⟩
    · have hb : (c == 10) = false := beq_false_of_ne hc
      rw [hb]
      simp only [Bool.false_eq_true, if_false]
      cases r with
      | nil => exact ⟨1, by decide, by simp, by simp [Lib.indexByte], by simp [splitF, hc]⟩
      | cons d r =>
        obtain ⟨k, h1, h2, h3, h4⟩ := splitF_first (d :: r) (by simp)
        refine ⟨k + 1, by omega, by simp only [List.length_cons] at h2 ⊢; omega, ?_, ?_⟩
        · by_cases hm : Lib.indexByte (d :: r) 10 = -1
          · rw [hm] at h3 ⊢
            simp only [if_true, beq_self_eq_true] at h3 ⊢
            simp only [List.length_cons] at h3 ⊢
            omega
          · have hb2 : (Lib.indexByte (d :: r) 10 == -1) = false := beq_false_of_ne hm
            rw [if_neg hm] at h3
            rw [hb2]
            simp only [Bool.false_eq_true, if_false]
            rw [if_neg (by omega)]
            omega
        · rw [splitF, if_neg hc, h4]; rfl
open Go Go.RowKit Go.Proofs
section
variable {w0 : Base} {σ : Store} {R : AV → Store → Prop}
abbrev lnS (L : List Ln) : Store := [.arr 1 (L.map PV.str) false]
abbrev lnA (L : List Ln) : AV := .arr 0 L.length 0 L.length
theorem ln_seal (L : List Ln) : sealR 0 ([] ++ lnS L) (lnA L) = some (.pv (lnsP L)) := by
  show (if (L.map PV.str).length = L.length ∧ 0 + L.length ≤ L.length then some (AV.pv (.sl (((L.map PV.str).drop 0).take L.length))) else none) = _
  rw [if_pos ⟨List.length_map _, by omega⟩]
  simp [List.take_of_length_le]
theorem slice_both {s : Ln} {i k : Nat} (h1 : i ≤ k) (h : k ≤ s.length) : aSlice σ tabS ti9.td (.pv (.str s)) (some (.pv (.int .i64 (i : Int)))) (some (.pv (.int .i64 (k : Int)))) = some (.pv (.str ((s.take k).drop i))) := by
  show (if (0 : Int) ≤ (i : Int) ∧ (i : Int) ≤ (k : Int) ∧ (k : Int) ≤ ((s.length : Nat) : Int) then some (AV.pv (.str ((s.take (k : Int).toNat).drop (i : Int).toNat))) else none) = _
  rw [if_pos (by omega)]
  simp
theorem one_str {l : Ln} : aBuildSlice σ ti9 false 1 [(0, .pv (.str l))] = some (.pv (.sl [.str l]), σ) := rfl
theorem ln_append {σ : Store} {L : List Ln} {l : Ln} {id : Nat} (ho : σ[id]? = some (.arr 1 (L.map PV.str) false)) (h : L.length ≤ 1099511627776) : aAppend σ ti9 (.arr id L.length 0 L.length) (.pv (.sl [.str l])) = some (.arr id (L ++ [l]).length 0 (L ++ [l]).length, σ.set id (.arr 1 ((L ++ [l]).map PV.str) false)) := by
  rw [append_pv (id := id) (es := 1) (ver := L.length) (xs := L.map PV.str) (ys := [.str l]) rfl ho (List.length_map _).symm rfl rfl ⟨by rw [List.length_map]; show L.length + 1 ≤ _; omega, by rw [List.length_map]; show (L.length + 1) * 16 ≤ _; omega⟩]
  simp
theorem split_loop {R : AV → Store → Prop} : ∀ (f : Nat) (s : Ln) (done : List Ln), s.length < f → s.length ≤ 1099511627776 → done.length + s.length ≤ 1099511627776 → (∀ l, l = done ++ splitF s → R (lnA l) (lnS l)) → lines_Split.n6 (lines_Split.X w0 0) w0 0 R (lnS done) s (lnA done)
  | 0, s, done, h, _, _, _ => absurd h (Nat.not_lt_zero _)
  | f + 1, s, done, hf, hs, hd, hR => by
    refine lines_Split.n6_in ?_
    rw [lines_Split.b7_eq, condB_not, condB_sbeq]
    refine ite_split (fun g => ?_) (fun g => ?_)
    · refine lines_Split.n25_in ?_
      rw [lines_Split.b25_eq]
      subst g
      exact fin_keep (Nat.zero_le _) (hR done (by simp [splitF]))
    · obtain ⟨k, k1, k2, k3, k4⟩ := splitF_first s g
      have hge := Lib.indexByte_ge s 10
      have fin : ∀ at_ : Int, at_ = (k : Int) → lines_Split.n22 (lines_Split.X w0 0) w0 0 R (lnS done) s (lnA done) at_ := by
        rintro at_ rfl
        have hl1 : (s.take k).length = k := by rw [List.length_take]; omega
        have ih := split_loop (R := R) f (s.drop k) (done ++ [s.take k]) (by rw [List.length_drop]; omega) (by rw [List.length_drop]; omega) (by rw [List.length_drop, List.length_append, List.length_singleton]; omega) (fun l hl => hR l (by rw [hl, k4, List.append_assoc]; rfl))
        refine lines_Split.n22_in ?_
        rw [lines_Split.b22_eq]
        refine opt_in (slice_take k2) (isS_in ?_)
        refine opt2_in one_str ?_
        refine opt2_in (ln_append rfl (by omega)) ?_
        refine opt_in (slice_drop k2) (isS_in ?_)
        exact ih
      refine IndexByte_spec (c := 10) (isI_in ?_)
      have hle : Lib.indexByte s 10 + 1 ≤ 1099511627776 := by
        by_cases hm : Lib.indexByte s 10 = -1
        · omega
        · rw [if_neg hm] at k3; omega
      rw [wrap_i64 (by omega) (by omega), condB_ibeq]
      refine ite_split (fun g2 => fin _ ?_) (fun g2 => fin _ ?_)
      · rw [if_pos (by omega)] at k3; exact k3
      · rw [if_neg (by omega)] at k3; exact k3
theorem SplitK_spec {R : AV → Store → Prop} {s : Ln} (hs : s.length ≤ 1099511627776) (hR : R (lnA (splitF s)) (lnS (splitF s))) : SCalls (cx w0) lines_Split.id [.pv (.str s)] [] R := by
  refine lines_Split.calls ?_
  rw [lines_Split.b0_eq]
  refine lines_Split.n6_weak (s' := s) (out' := lnA []) (τ := lnS []) (EWeak.nil (t := 3) (es := 1) rfl rfl) ?_
  exact split_loop (s.length + 1) s [] (by omega) hs (by simpa using hs) (fun l hl => by rw [hl]; exact hR)
theorem rsplit_loop {s : Ln} (hs : s.length ≤ 1099511627776) : ∀ (f i k : Nat) (done : List Ln), i + f = s.length → k ≤ i → done.length ≤ k → (∀ j : Nat, j < i - k → (s.drop k)[j]? ≠ some 10) → done ++ splitF (s.drop k) = splitF s → selvageref01_Split.n10 (selvageref01_Split.X w0 0) w0 0 (fun r' _ => r' = .pv (lnsP (splitF s))) (lnS done) s (lnA done) k i
  | 0, i, k, done, hi, hk, hd, hn, he => by
    refine selvageref01_Split.n10_in ?_
    rw [selvageref01_Split.b11_eq, condB_decide, if_neg (by omega)]
    refine selvageref01_Split.n27_in ?_
    rw [selvageref01_Split.b27_eq, condB_decide]
    have fin : ∀ l, l = splitF s → selvageref01_Split.n33 (selvageref01_Split.X w0 0) w0 0 (fun r' _ => r' = .pv (lnsP (splitF s))) (lnS l) (lnA l) := by
      rintro l rfl
      refine selvageref01_Split.n33_in ?_
      rw [selvageref01_Split.b33_eq]
      exact fin_seal (σ := []) (L := lnS _) glob0 rfl (ln_seal _) rfl
    refine ite_split (fun g => ?_) (fun g => ?_)
    · refine opt_in (slice_drop (by omega)) (isS_in ?_)
      refine opt2_in one_str ?_
      refine opt2_in (ln_append rfl (by omega)) ?_
      refine fin (done ++ [s.drop k]) ?_
      rw [← he, splitF_rest (s.drop k) (by intro e; have := congrArg List.length e; rw [List.length_drop, List.length_nil] at this; omega) fun j => ?_]
      by_cases hj : j < i - k
      · exact hn j hj
      · rw [List.getElem?_eq_none (by rw [List.length_drop]; omega)]
        exact fun h => by cases h
    · refine fin done ?_
      rw [← he, List.drop_eq_nil_of_le (by omega)]
      simp [splitF]
  | f + 1, i, k, done, hi, hk, hd, hn, he => by
    have hlt : i < s.length := by omega
    have hg : s[i]? = some s[i] := List.getElem?_eq_getElem hlt
    refine selvageref01_Split.n10_in ?_
    rw [selvageref01_Split.b11_eq, condB_decide, if_pos (by omega)]
    refine opt_in (idx_str hg) (isI_in ?_)
    rw [condB_ibeq]
    refine ite_split (fun g => ?_) (fun g => ?_)
    · have h10 : s[i] = 10 := by
        apply UInt8.toNat_inj.1
        show _ = 10
        omega
      rw [wrap_next hlt (by omega)]
      refine opt_in (slice_both (i := k) (k := i + 1) (by omega) (by omega)) (isS_in ?_)
      refine opt2_in one_str ?_
      refine opt2_in (ln_append rfl (by omega)) ?_
      refine selvageref01_Split.n26_in ?_
      rw [selvageref01_Split.b26_eq, wrap_next hlt (by omega)]
      refine rsplit_loop hs f (i + 1) (i + 1) _ (by omega) (Nat.le_refl _) (by rw [List.length_append, List.length_singleton]; omega) (fun j hj => absurd hj (by omega)) ?_
      have hc := splitF_cut (i - k) (s.drop k) (by rw [List.getElem?_drop, show k + (i - k) = i by omega, hg, h10]) (fun j hj => hn j hj)
      rw [← he, hc, List.append_assoc, List.singleton_append, List.drop_drop, show k + (i - k + 1) = i + 1 by omega, List.drop_take, show i + 1 - k = i - k + 1 by omega]
    · have h10 : s[i] ≠ 10 := fun e => g (by rw [e]; rfl)
      refine selvageref01_Split.n26_in ?_
      rw [selvageref01_Split.b26_eq, wrap_next hlt (by omega)]
      refine rsplit_loop hs f (i + 1) k done (by omega) (by omega) hd (fun j hj => ?_) he
      by_cases e : j < i - k
      · exact hn j e
      · rw [List.getElem?_drop, show k + j = i by omega, hg]
        exact fun h => h10 (by simpa using h)
theorem rSplit_spec (L : Laid w0.w) {s : Ln} (hs : s.length ≤ 1099511627776) (hR : R (.pv (lnsP (splitF s))) σ) : SCalls (cx w0) selvageref01_Split.id [.pv (.str s)] σ R := by
  refine SCalls.alone L rfl (fun w1 L1 => ?_) rfl hR
  refine selvageref01_Split.calls ?_
  rw [selvageref01_Split.b0_eq]
  refine selvageref01_Split.n10_weak (s' := s) (out' := lnA []) (from_' := (0 : Nat)) (i' := (0 : Nat)) (τ := lnS []) (EWeak.nil (t := 3) (es := 1) rfl rfl) ?_
  exact rsplit_loop hs s.length 0 0 [] (Nat.zero_add _) (Nat.le_refl _) (Nat.le_refl _) (fun j hj => absurd hj (by omega)) rfl
end
end Go.Sv
