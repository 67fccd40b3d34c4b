/- What the code of reading answers: lines, names in quotes, numbers, a hunk's first line. -/
import Derived.Test.YtebgkjjbbnbnlaaGreatDoorUnL
import Derived.Test.YtebgkjjbbnbnlaaGreatDoorUnP
import Derived.Test.YtebgkjjbbnbnlaaGreatDoorUnE
set_option linter.unusedVariables false
set_option linter.unusedSimpArgs false
set_option maxRecDepth 100000
namespace Go.Sv
open Go Go.RowKit Go.Proofs
abbrev lnsP (L : List Ln) : PV := .sl (L.map .str)
section
variable {w0 : Base} {σ : Store} {R : AV → Store → Prop}
abbrev lnS (L : List Ln) : Store := [.arr 1 (L.map PV.str) false]
abbrev lnA (L : List Ln) : AV := .arr 0 L.length 0 L.length
theorem ln_seal (L : List Ln) : sealR 0 ([] ++ lnS L) (lnA L) = some (.pv (lnsP L)) := by
  show (if (L.map PV.str).length = L.length ∧ 0 + L.length ≤ L.length then some (AV.pv (.sl (((L.map PV.str).drop 0).take L.length))) else none) = _
  rw [if_pos ⟨List.length_map _, by omega⟩]
  simp [List.take_of_length_le]
theorem slice_take {s : Ln} {k : Nat} (h : k ≤ s.length) : aSlice σ tabS ti9.td (.pv (.str s)) none (some (.pv (.int .i64 (k : Int)))) = some (.pv (.str (s.take k))) := by
  show (if (0 : Int) ≤ 0 ∧ (0 : Int) ≤ (k : Int) ∧ (k : Int) ≤ ((s.length : Nat) : Int) then some (AV.pv (.str ((s.take (k : Int).toNat).drop (0 : Int).toNat))) else none) = _
  rw [if_pos (by omega)]
  simp
theorem slice_drop {s : Ln} {k : Nat} (h : k ≤ s.length) : aSlice σ tabS ti9.td (.pv (.str s)) (some (.pv (.int .i64 (k : Int)))) none = some (.pv (.str (s.drop k))) := by
  show (if (0 : Int) ≤ (k : Int) ∧ (k : Int) ≤ ((s.length : Nat) : Int) ∧ ((s.length : Nat) : Int) ≤ ((s.length : Nat) : Int) then some (AV.pv (.str ((s.take ((s.length : Nat) : Int).toNat).drop (k : Int).toNat))) else none) = _
  rw [if_pos (by omega)]
  simp
theorem one_str {l : Ln} : aBuildSlice σ ti9 false 1 [(0, .pv (.str l))] = some (.pv (.sl [.str l]), σ) := rfl
theorem split_loop : ∀ (f : Nat) (s : Ln) (done : List Ln), s.length < f → s.length ≤ 1099511627776 → done.length + s.length ≤ 1099511627776 → lines_Split.n6 (lines_Split.X w0 0) w0 0 (fun r' _ => r' = .pv (lnsP (done ++ splitF s))) (lnS done) s (lnA done)
  | 0, s, done, h, _, _ => absurd h (Nat.not_lt_zero _)
  | f + 1, s, done, hf, hs, hd => by
    refine lines_Split.n6_in ?_
    rw [lines_Split.b7_eq, condB_not, condB_sbeq]
    refine ite_split (fun g => ?_) (fun g => ?_)
    · refine lines_Split.n25_in ?_
      rw [lines_Split.b25_eq]
      subst g
      refine fin_seal (σ := []) (L := lnS done) glob0 rfl (ln_seal done) ?_
      simp [splitF]
    · obtain ⟨k, k1, k2, k3, k4⟩ := splitF_first s g
      have hge := Lib.indexByte_ge s 10
      have fin : ∀ at_ : Int, at_ = (k : Int) → lines_Split.n22 (lines_Split.X w0 0) w0 0 (fun r' _ => r' = .pv (lnsP (done ++ splitF s))) (lnS done) s (lnA done) at_ := by
        rintro at_ rfl
        have hl1 : (s.take k).length = k := by rw [List.length_take]; omega
        have ih := split_loop f (s.drop k) (done ++ [s.take k]) (by rw [List.length_drop]; omega) (by rw [List.length_drop]; omega) (by rw [List.length_drop, List.length_append, List.length_singleton]; omega)
        simp only [lnA, List.length_append, List.length_singleton] at ih
        have e : done.map PV.str ++ [PV.str (s.take k)] = (done ++ [s.take k]).map PV.str := by simp
        refine lines_Split.n22_in ?_
        rw [lines_Split.b22_eq]
        refine opt_in (slice_take k2) (isS_in ?_)
        refine opt2_in one_str ?_
        refine opt2_in (append_pv (id := 0) (es := 1) (ver := done.length) (xs := done.map PV.str) (ys := [.str (s.take k)]) rfl rfl (List.length_map _).symm rfl rfl ⟨by rw [List.length_map]; show done.length + 1 ≤ _; omega, by rw [List.length_map]; show (done.length + 1) * 16 ≤ _; omega⟩) ?_
        refine opt_in (slice_drop k2) (isS_in ?_)
        rw [List.length_map, e]
        rw [k4]
        rw [List.append_assoc] at ih
        exact ih
      refine IndexByte_spec (c := 10) (isI_in ?_)
      have hle : Lib.indexByte s 10 + 1 ≤ 1099511627776 := by
        by_cases hm : Lib.indexByte s 10 = -1
        · omega
        · rw [if_neg hm] at k3; omega
      rw [wrap_i64 (by omega) (by omega), condB_ibeq]
      refine ite_split (fun g2 => fin _ ?_) (fun g2 => fin _ ?_)
      · rw [if_pos (by omega)] at k3; exact k3
      · rw [if_neg (by omega)] at k3; exact k3
theorem Split_spec (L : Laid w0.w) {s : Ln} (hs : s.length ≤ 1099511627776) (hR : R (.pv (lnsP (splitF s))) σ) : SCalls (cx w0) lines_Split.id [.pv (.str s)] σ R := by
  refine SCalls.alone L rfl (fun w1 L1 => ?_) rfl hR
  refine lines_Split.calls ?_
  rw [lines_Split.b0_eq]
  refine lines_Split.n6_weak (s' := s) (out' := lnA []) (τ := lnS []) (EWeak.nil (t := 3) (es := 1) rfl rfl) ?_
  exact split_loop (s.length + 1) s [] (by omega) hs (by simpa using hs)
end
end Go.Sv
