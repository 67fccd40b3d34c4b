/- A hunk's first line: what the program's side answers. -/
import Derived.Test.YtgdnoobpnhmpjaaGreatDoorSmP
set_option linter.unusedVariables false
set_option linter.unusedSimpArgs false
set_option maxRecDepth 100000
namespace Go.Sv
open Go Go.RowKit Go.Proofs
theorem index_at {b : UInt8} : ∀ (p t : Ln), (∀ c ∈ p, c ≠ b) → Lib.indexByte (p ++ b :: t) b = (p.length : Int)
  | [], t, _ => by simp [Lib.indexByte]
  | c :: p, t, h => by
    have hc : c ≠ b := h c (by simp)
    have ih := index_at p t (fun x hx => h x (List.mem_cons_of_mem _ hx))
    rw [List.cons_append, Lib.indexByte, beq_false_of_ne hc]
    simp only [Bool.false_eq_true, if_false]
    rw [ih]
    have hb : (((p.length : Nat) : Int) == -1) = false := beq_false_of_ne (by omega)
    rw [hb]
    simp
theorem index_no {b : UInt8} : ∀ (p : Ln), (∀ c ∈ p, c ≠ b) → Lib.indexByte p b = -1
  | [], _ => rfl
  | c :: p, h => by
    have hc : c ≠ b := h c (by simp)
    have ih := index_no p (fun x hx => h x (List.mem_cons_of_mem _ hx))
    rw [Lib.indexByte, beq_false_of_ne hc]
    simp only [Bool.false_eq_true, if_false]
    rw [ih]; rfl
theorem digs_all (s : Ln) : ∀ c ∈ digs s, isDig c = true := by
  induction s with
  | nil => exact nofun
  | cons c s ih =>
    intro d hd
    rw [digs, List.takeWhile_cons] at hd
    split at hd
    · rename_i h
      rcases List.mem_cons.1 hd with rfl | hd
      · exact h
      · exact ih d hd
    · cases hd
theorem dig_range {c : UInt8} (h : isDig c = true) : 48 ≤ c.toNat ∧ c.toNat ≤ 57 := by
  unfold isDig at h
  rw [Bool.and_eq_true, decide_eq_true_eq, decide_eq_true_eq] at h
  exact h
theorem digs_no (s : Ln) : ∀ c ∈ digs s, c ≠ 44 := by
  intro c hc e
  have := dig_range (digs_all s c hc)
  subst e
  have : UInt8.toNat 44 = 44 := rfl
  omega
theorem digs_rest (s : Ln) : digs s ++ rest s = s := List.takeWhile_append_dropWhile
theorem parse_val : ∀ (l : Ln) (acc : Nat), (∀ c ∈ l, isDig c = true) → valD acc l < 9223372036854775808 → Lib.parseUint10 acc l = .ok (valD acc l)
  | [], acc, _, _ => rfl
  | c :: l, acc, h, hv => by
    have hc := dig_range (h c (by simp))
    have hge := valD_ge l (acc * 10 + (c.toNat - 48))
    have hv' : valD (acc * 10 + (c.toNat - 48)) l < 9223372036854775808 := hv
    rw [Lib.parseUint10, if_pos hc, if_neg (by omega), if_neg (by omega)]
    exact parse_val l _ (fun x hx => h x (List.mem_cons_of_mem _ hx)) hv'
theorem atoi_val {l : Ln} (hne : l ≠ []) (h : ∀ c ∈ l, isDig c = true) (hv : valD 0 l < 9223372036854775808) : Lib.atoiAll l = .ok (valD 0 l : Int) := by
  cases l with
  | nil => exact absurd rfl hne
  | cons c r =>
    have hc := dig_range (h c (by simp))
    have e1 : Lib.parseMag (c :: r) = .ok (valD 0 (c :: r)) := by
      unfold Lib.parseMag
      rw [if_neg hne]
      exact parse_val _ 0 h hv
    unfold Lib.atoiAll
    simp only
    rw [if_neg (by omega), e1]
    simp only
    rw [if_neg (by omega), if_neg (by omega), if_neg (by omega)]
theorem zeros_val : ∀ (l : Ln), valD 0 (l.dropWhile (· == 48)) = valD 0 l
  | [] => rfl
  | c :: l => by
    rw [List.dropWhile_cons]
    split
    · rename_i h
      have : c = 48 := by simpa using h
      subst this
      rw [zeros_val l]; rfl
    · rfl
theorem valD_pow : ∀ (l : Ln) (n : Nat), n * 10 ^ l.length ≤ valD n l
  | [], n => by
    show n * 10 ^ 0 ≤ n
    rw [Nat.pow_zero, Nat.mul_one]
    exact Nat.le_refl _
  | c :: l, n => by
    have := valD_pow l (n * 10 + (c.toNat - 48))
    refine Nat.le_trans ?_ this
    rw [List.length_cons, Nat.pow_succ, Nat.mul_comm (10 ^ l.length) 10, ← Nat.mul_assoc]
    exact Nat.mul_le_mul_right _ (by omega)
theorem long_val {l : Ln} (h : ∀ c ∈ l, isDig c = true) (hl : 10 < (l.dropWhile (· == 48)).length) : 2147483647 < valD 0 l := by
  rw [← zeros_val]
  have hsub : ∀ c ∈ l.dropWhile (· == 48), isDig c = true := fun c hc => h c ((List.dropWhile_sublist _).subset hc)
  have hnot := List.head?_dropWhile_not (fun c : UInt8 => c == 48) l
  generalize l.dropWhile (· == 48) = m at hl hsub hnot
  cases m with
  | nil => cases hl
  | cons c r =>
    simp only [List.head?_cons] at hnot
    have hc := dig_range (hsub c (by simp))
    have hn : c.toNat ≠ 48 := fun e => by
      have : c = 48 := UInt8.toNat_inj.1 (by rw [e]; rfl)
      rw [this] at hnot
      simp at hnot
    have h1 := valD_pow r (0 * 10 + (c.toNat - 48))
    have h2 : (10 : Nat) ^ 10 ≤ 10 ^ r.length := Nat.pow_le_pow_right (by decide) (by simp only [List.length_cons] at hl; omega)
    have h3 : 10 ^ r.length ≤ (0 * 10 + (c.toNat - 48)) * 10 ^ r.length := Nat.le_mul_of_pos_left _ (by omega)
    have h4 : (10 : Nat) ^ 10 = 10000000000 := rfl
    rw [h4] at h2
    show 2147483647 < valD (0 * 10 + (c.toNat - 48)) r
    generalize (10 : Nat) ^ r.length = Y at h1 h2 h3
    generalize (0 * 10 + (c.toNat - 48)) * Y = Z at h1 h3
    exact Nat.lt_of_lt_of_le (Nat.lt_of_lt_of_le (by decide) h2) (Nat.le_trans h3 h1)
section
variable {w0 : Base} {σ : Store} {R : AV → Store → Prop}
theorem slIndex1_spec {s : Ln} {c : UInt8} (hR : R (.pv (.int .i64 (Lib.indexByte s c))) σ) : SCalls (cx w0) stringslite_Index.id [.pv (.str s), .pv (.str [c])] σ R :=
  SCalls.same (enters Tryz.func161 (by kernel_rfl) (by kernel_rfl)) hR fun m K w vs hB hv => by
    obtain ⟨x, y, rfl, hx, hy⟩ := hv.two
    obtain rfl := hx.str_inv
    obtain rfl := hy.str_inv
    exact ⟨_, .pv _ _ (.int _ _), Tryz.stringslite_Index_one ⟨s.toArray⟩ c w⟩
theorem TrimLeft1_spec {s : Ln} {c : UInt8} (hc : c.toNat < 128) (hR : R (.pv (.str (s.dropWhile (· == c)))) σ) : SCalls (cx w0) strings_TrimLeft.id [.pv (.str s), .pv (.str [c])] σ R :=
  SCalls.same (enters Tryz.func70 (by kernel_rfl) (by kernel_rfl)) hR fun m K w vs hB hv => by
    obtain ⟨x, y, rfl, hx, hy⟩ := hv.two
    obtain rfl := hx.str_inv
    obtain rfl := hy.str_inv
    exact ⟨_, .pv _ _ (.str _), Tryz.strings_TrimLeft_one ⟨s.toArray⟩ c hc w⟩
theorem Atoi_spec {s : Ln} {n : Int} (hl : s.length ≤ 140737488355328) (h : Lib.atoiAll s = .ok n) (hR : R (.tup [.pv (.int .i64 n), .pv (.raw .nilIface)]) σ) : SCalls (cx w0) strconv_Atoi.id [.pv (.str s)] σ R :=
  SCalls.below (enters Tryz.func124 (by kernel_rfl) (by kernel_rfl)) fun m K w vs hB hv => by
    obtain ⟨x, rfl, hx⟩ := hv.one
    obtain rfl := hx.str_inv
    refine (Tryz.strconv_Atoi_ok ⟨s.toArray⟩ (Nat.le_trans (show s.toArray.size ≤ 140737488355328 by simpa using hl) (by decide)) n h w).mono fun e w' ⟨he, hw⟩ => ⟨_, _, he, ?_, ?_, hR⟩
    · rcases hw with rfl | ⟨t, rfl⟩
      · exact Below.refl _ _
      · exact Lib.bytesWorld_below _ _ _
    · refine .tup _ _ rfl (fun j p v hp hv => ?_)
      match j with
      | 0 => simp at hp hv; subst hp; subst hv; exact .pv _ _ (.int _ _)
      | 1 => simp at hp hv; subst hp; subst hv; exact .pv _ _ (.raw _ rfl)
      | j + 2 => simp at hp
end
end Go.Sv
