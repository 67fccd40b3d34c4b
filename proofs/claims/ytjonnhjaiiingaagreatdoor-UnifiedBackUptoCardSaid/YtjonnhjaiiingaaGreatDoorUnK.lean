/- Numbers, ranges, a hunk's first line, read: as plain lists; what is printed is read as it was. -/
import Derived.Test.YtjonnhjaiiingaaGreatDoorUnJ
import Derived.Test.YtjonnhjaiiingaaGreatDoorUnE
set_option linter.unusedVariables false
set_option linter.unusedSimpArgs false
set_option maxRecDepth 100000
namespace Go.Sv
def capI (x : Int) : Int := if 2147483648 < x then 2147483648 else x
def numL : List UInt8 → Int → Int × List UInt8
  | [], n => (n, [])
  | c :: r, n => if 48 ≤ c.toNat ∧ c.toNat ≤ 57 then numL r (capI (n * 10 + ((c.toNat : Int) - 48))) else (n, c :: r)
def numF (s : List UInt8) : Int × List UInt8 × Bool := ((numL s 0).1, (numL s 0).2, decide ((numL s 0).2.length < s.length) && decide ((numL s 0).1 ≤ 2147483647))
def rangF (s : List UInt8) : Int × Int × List UInt8 × Bool :=
  if (numF s).2.2 = true ∧ Lib.hasPrefix (numF s).2.1 [44] = true then ((numF s).1, (numF ((numF s).2.1.drop 1)).1, (numF ((numF s).2.1.drop 1)).2.1, (numF ((numF s).2.1.drop 1)).2.2)
  else ((numF s).1, 1, (numF s).2.1, (numF s).2.2)
def cutF (s p : List UInt8) : List UInt8 × Bool := if Lib.hasPrefix s p = true then (s.drop p.length, true) else (s, false)
def zeroH : Hnk := ⟨0, 0, 0, 0, [], []⟩
def fst4 (h : Hnk) (s : List UInt8) (ok : Bool) : Hnk × Bool :=
  if ok = false then (h, false) else if s ≠ [] ∧ s.head? ≠ some 32 then (h, false) else ({ h with head := Lib.trimPrefix s [32] }, true)
def fst3 (h : Hnk) (s : List UInt8) (ok : Bool) : Hnk × Bool := if ok = true then fst4 h (cutF s [32, 64, 64]).1 (cutF s [32, 64, 64]).2 else fst4 h s ok
def fst2 (h : Hnk) (s : List UInt8) (ok : Bool) : Hnk × Bool := if ok = true then fst3 { h with b := (rangF s).1, m := (rangF s).2.1 } (rangF s).2.2.1 (rangF s).2.2.2 else fst3 h s ok
def fst1 (h : Hnk) (s : List UInt8) (ok : Bool) : Hnk × Bool := if ok = true then fst2 h (cutF s [32, 43]).1 (cutF s [32, 43]).2 else fst2 h s ok
def firstF (s : List UInt8) : Hnk × Bool := if (cutF s [64, 64, 32, 45]).2 = true then fst1 { zeroH with a := (rangF (cutF s [64, 64, 32, 45]).1).1, n := (rangF (cutF s [64, 64, 32, 45]).1).2.1 } (rangF (cutF s [64, 64, 32, 45]).1).2.2.1 (rangF (cutF s [64, 64, 32, 45]).1).2.2.2 else fst1 zeroH (cutF s [64, 64, 32, 45]).1 (cutF s [64, 64, 32, 45]).2
theorem num_dec : ∀ (u : Nat), u ≤ 2147483647 → ∀ X : List UInt8, numL (Lib.decDigits u ++ X) 0 = numL X (u : Int) := by
  intro u
  induction u using Nat.strongRecOn with
  | ind u ih =>
    intro hu X
    have dig : ∀ d : Nat, d < 10 → (UInt8.ofNat (48 + d)).toNat = 48 + d := fun d h => UInt8.toNat_ofNat_of_lt' (show 48 + d < 256 by omega)
    rw [Lib.decDigits]
    split
    · rename_i h
      simp only [List.cons_append, List.nil_append]
      rw [numL, dig u h, if_pos (by omega)]
      congr 1
      unfold capI
      rw [if_neg (by omega)]; omega
    · rename_i h
      rw [List.append_assoc, ih (u / 10) (by omega) (by omega)]
      simp only [List.cons_append, List.nil_append]
      rw [numL, dig (u % 10) (by omega), if_pos (by omega)]
      congr 1
      unfold capI
      rw [if_neg (by omega)]; omega
def noDig (s : List UInt8) : Prop := ∀ c r, s = c :: r → ¬ (48 ≤ c.toNat ∧ c.toNat ≤ 57)
theorem numL_stop {s : List UInt8} (h : noDig s) (n : Int) : numL s n = (n, s) := by
  cases s with
  | nil => rfl
  | cons c r => rw [numL, if_neg (h c r rfl)]
theorem dec_pos (u : Nat) : 1 ≤ (Lib.decDigits u).length := by
  rw [Lib.decDigits]
  split
  · simp
  · simp
theorem num_itoa {a : Int} (h0 : 0 ≤ a) (h1 : a ≤ 2147483647) {X : List UInt8} (hX : noDig X) : numF (Lib.itoa a ++ X) = (a, X, true) := by
  have e : numL (Lib.itoa a ++ X) 0 = (a, X) := by
    rw [itoa_dec h0, num_dec _ (by omega), numL_stop hX]
    congr 1; omega
  have := dec_pos a.toNat
  unfold numF
  rw [e, itoa_dec h0]
  simp only [List.length_append]
  rw [decide_eq_true (show X.length < (Lib.decDigits a.toNat).length + X.length by omega), decide_eq_true h1]
  rfl
theorem rang_span {a n : Int} (h0 : 0 ≤ a) (h1 : a ≤ 2147483647) (h2 : 0 ≤ n) (h3 : n ≤ 2147483647) (X : List UInt8) : rangF (spanF a n ++ 32 :: X) = (a, n, 32 :: X, true) := by
  have hX : noDig (32 :: X) := fun c r e => by
    simp only [List.cons.injEq] at e
    rw [← e.1]
    decide
  unfold spanF
  by_cases hn : n = 1
  · rw [if_pos hn]
    have e := num_itoa h0 h1 hX
    unfold rangF
    rw [e]
    have hp : Lib.hasPrefix (32 :: X) [44] = false := by simp [Lib.hasPrefix, List.isPrefixOf]
    simp [hp, hn]
  · rw [if_neg hn]
    have hY : noDig (44 :: (Lib.itoa n ++ 32 :: X)) := fun c r e => by
      simp only [List.cons.injEq] at e
      rw [← e.1]
      decide
    have e := num_itoa h0 h1 hY
    have e2 := num_itoa h2 h3 hX
    have ea : Lib.itoa a ++ [44] ++ Lib.itoa n ++ 32 :: X = Lib.itoa a ++ 44 :: (Lib.itoa n ++ 32 :: X) := by simp
    rw [ea]
    unfold rangF
    rw [e]
    have hp : Lib.hasPrefix (44 :: (Lib.itoa n ++ 32 :: X)) [44] = true := by simp [Lib.hasPrefix, List.isPrefixOf]
    simp [hp, e2]
theorem cut_front (p X : List UInt8) : cutF (p ++ X) p = (X, true) := by
  unfold cutF
  have : Lib.hasPrefix (p ++ X) p = true := by simp [Lib.hasPrefix]
  rw [if_pos this]; simp
theorem valid_small {h : Hnk} (hv : validF h = true) (ok : HnkOK h) : (0 ≤ h.a ∧ h.a ≤ 2147483647) ∧ (0 ≤ h.n ∧ h.n ≤ 2147483647) ∧ (0 ≤ h.b ∧ h.b ≤ 2147483647) ∧ (0 ≤ h.m ∧ h.m ≤ 2147483647) := by
  obtain ⟨_, f1, f2, f3, f4, f5, f6⟩ := validF_facts hv (Nat.le_trans ok.rows (by decide))
  simp only [validF, Bool.and_eq_true, beq_iff_eq] at hv
  obtain ⟨⟨⟨⟨⟨⟨v1, v2⟩, v3⟩, v4⟩, v5⟩, v6⟩, v7⟩ := hv
  simp only [startB, Bool.and_eq_true, decide_eq_true_eq] at v4 v5
  rw [← v2] at v4
  rw [← v3] at v5
  rw [wrap_i64 (by omega) (by omega)] at v4 v5
  omega
theorem first_head {h : Hnk} (hv : validF h = true) (ok : HnkOK h) : firstF (headF h) = ({ h with rows := [] }, true) := by
  obtain ⟨⟨a0, a1⟩, ⟨n0, n1⟩, ⟨b0, b1⟩, m0, m1⟩ := valid_small hv ok
  obtain ⟨T, hT⟩ : ∃ T, T = (if h.head = [] then ([] : List UInt8) else [32] ++ h.head) := ⟨_, rfl⟩
  have e : headF h = [64, 64, 32, 45] ++ (spanF h.a h.n ++ 32 :: (43 :: (spanF h.b h.m ++ 32 :: (64 :: 64 :: T)))) := by
    unfold headF
    rw [← hT]
    simp
  have c1 := cut_front [64, 64, 32, 45] (spanF h.a h.n ++ 32 :: (43 :: (spanF h.b h.m ++ 32 :: (64 :: 64 :: T))))
  have r1 := rang_span a0 a1 n0 n1 (43 :: (spanF h.b h.m ++ 32 :: (64 :: 64 :: T)))
  have c2 := cut_front [32, 43] (spanF h.b h.m ++ 32 :: (64 :: 64 :: T))
  have r2 := rang_span b0 b1 m0 m1 (64 :: 64 :: T)
  have c3 := cut_front [32, 64, 64] T
  simp only [List.cons_append, List.nil_append] at c1 c2 c3
  unfold firstF
  rw [e]
  simp only [List.cons_append, List.nil_append, c1, r1, if_true]
  unfold fst1
  simp only [if_true, c2]
  unfold fst2
  simp only [if_true, r2]
  unfold fst3
  simp only [if_true, c3]
  unfold fst4
  rw [if_neg (by decide)]
  have hh : ¬ (T ≠ [] ∧ T.head? ≠ some 32) := by
    rw [hT]
    split
    · simp
    · simp
  rw [if_neg hh]
  have ht : Lib.trimPrefix T [32] = h.head := by
    rw [hT]
    split
    · rename_i e; rw [e]; rfl
    · simp [Lib.trimPrefix, Lib.hasPrefix]
  rw [ht]
  simp [zeroH]
end Go.Sv
