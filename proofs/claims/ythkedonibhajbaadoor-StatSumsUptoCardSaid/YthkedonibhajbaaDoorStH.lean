/- Numbers as text, and the last line: what both sides answer. -/
import Derived.Test.YthkedonibhajbaaDoorStG
set_option linter.unusedVariables false
set_option linter.unusedSimpArgs false
set_option maxRecDepth 100000
namespace Go.Sv
open Go Go.RowKit Go.Proofs
section
variable {w0 : Base} {σ : Store} {R : AV → Store → Prop}
theorem digit_slice : ∀ (d : Nat), d < 10 → aSlice σ tabS ti9.td (.pv (.str [48, 49, 50, 51, 52, 53, 54, 55, 56, 57])) (some (.pv (.int .i64 (d : Int)))) (some (.pv (.int .i64 (IntKind.wrap .i64 ((d : Int) + 1))))) = some (.pv (.str [UInt8.ofNat (48 + d)]))
  | 0, _ => rfl | 1, _ => rfl | 2, _ => rfl | 3, _ => rfl | 4, _ => rfl | 5, _ => rfl | 6, _ => rfl | 7, _ => rfl | 8, _ => rfl | 9, _ => rfl
  | d + 10, h => by omega
theorem dec_len {u : Nat} (h : u ≤ 9223372036854775807) : (Lib.decDigits u).length ≤ 20 := by
  rw [Lib.decDigits_length]; exact Lib.nDigits_le20 u (by omega)
theorem Digits_nat : ∀ (u : Nat), u ≤ 9223372036854775807 → ∀ {σ : Store} {R : AV → Store → Prop}, R (.pv (.str (Lib.decDigits u))) σ → SCalls (cx w0) selvageref11_Digits.id [.pv (.int .i64 (u : Int))] σ R := by
  intro u
  induction u using Nat.strongRecOn with
  | ind u ih =>
    intro hu σ R hR
    refine selvageref11_Digits.calls ?_
    rw [selvageref11_Digits.b0_eq, condB_decide, if_neg (by omega), condB_decide]
    refine ite_split (fun h => ?_) (fun h => ?_)
    · refine opt_in (digit_slice u (by omega)) (isS_in (fin_same ?_))
      rw [Lib.decDigits, dif_pos (by omega)] at hR
      exact hR
    · have e1 : Int.tmod (u : Int) 10 = ((u % 10 : Nat) : Int) := by rw [Int.tmod_eq_emod_of_nonneg (by omega)]; omega
      have e2 : Int.tdiv (u : Int) 10 = ((u / 10 : Nat) : Int) := by rw [Int.tdiv_eq_ediv_of_nonneg (by omega)]; omega
      rw [e1, e2, wrap_i64 (n := ((u / 10 : Nat) : Int)) (by omega) (by omega)]
      refine ⟨by decide, by decide, by decide, opt_in (digit_slice (u % 10) (by omega)) (isS_in ?_)⟩
      refine ih (u / 10) (by omega) (by omega) (isS_in ?_)
      refine ⟨opt_in (digit_slice (u % 10) (by omega)) rfl, ?_, fin_same ?_⟩
      · have := dec_len (u := u / 10) (by omega)
        simp only [List.length_cons, List.length_nil]
        omega
      · rw [Lib.decDigits, dif_neg (by omega)] at hR
        exact hR
theorem itoa_dec {n : Int} (h : 0 ≤ n) : Lib.itoa n = Lib.decDigits n.toNat := by unfold Lib.itoa; rw [if_neg (by omega)]
theorem Digits_spec {n : Int} (h0 : 0 ≤ n) (h1 : n ≤ 9223372036854775807) (hR : R (.pv (.str (Lib.itoa n))) σ) : SCalls (cx w0) selvageref11_Digits.id [.pv (.int .i64 n)] σ R := by
  obtain ⟨u, rfl⟩ : ∃ u : Nat, n = u := ⟨n.toNat, by omega⟩
  rw [Lib.itoa_nonneg] at hR
  exact Digits_nat u (by omega) hR

/-! ### A number of things -/
def someF (n : Int) (t b : List UInt8) : List UInt8 := ((Lib.itoa n ++ [32]) ++ (if n = 1 then t else t ++ [115])) ++ b
theorem someF_len {n : Int} {t b : List UInt8} (h0 : 0 ≤ n) (h1 : n ≤ 9223372036854775807) (ht : t.length ≤ 100) (hb : b.length ≤ 100) : (someF n t b).length ≤ 300 := by
  have := Lib.itoa_length_le n (by omega) h1
  unfold someF
  split <;> simp only [List.length_append, List.length_cons, List.length_nil] <;> omega
theorem some_spec (L : Laid w0.w) {n : Int} {t b : List UInt8} (h0 : 0 ≤ n) (h1 : n ≤ 9223372036854775807) (ht : t.length ≤ 100) (hb : b.length ≤ 100) (hR : R (.pv (.str (someF n t b))) σ) : SCalls (cx w0) stat_some.id [.pv (.int .i64 n), .pv (.str t), .pv (.str b)] σ R := by
  have hi := Lib.itoa_length_le n (by omega) h1
  have last : ∀ t', t' = (if n = 1 then t else t ++ [115]) → t'.length ≤ 101 → stat_some.n8 (stat_some.X w0 σ.length) w0 σ.length R σ n t' b := by
    rintro t' rfl hl
    refine stat_some.n8_in ?_
    rw [stat_some.b8_eq]
    refine Itoa_spec L (by omega) h1 (isS_in ⟨?_, ?_, ?_, fin_same hR⟩)
    all_goals simp only [List.length_append, List.length_cons, List.length_nil] at *; omega
  refine stat_some.calls ?_
  rw [stat_some.b0_eq, condB_ibne]
  refine ite_split (fun h => last _ ?_ (by omega)) (fun h => ⟨?_, last _ ?_ ?_⟩)
  · rw [if_pos h]
  · simp only [List.length_cons, List.length_nil]; omega
  · rw [if_neg h]
  · simp only [List.length_append, List.length_cons, List.length_nil]; omega
theorem many_spec {n : Int} {t b one more : List UInt8} (h0 : 0 ≤ n) (h1 : n ≤ 9223372036854775807) (ht : t.length ≤ 100) (hb : b.length ≤ 100) (e1 : one = t ++ b) (e2 : more = (t ++ [115]) ++ b) (hR : R (.pv (.str (someF n t b))) σ) : SCalls (cx w0) selvageref16_many.id [.pv (.int .i64 n), .pv (.str one), .pv (.str more)] σ R := by
  subst e1; subst e2
  have hi := Lib.itoa_length_le n (by omega) h1
  refine selvageref16_many.calls ?_
  rw [selvageref16_many.b0_eq, condB_ibeq]
  unfold someF at hR
  refine ite_split (fun h => ⟨?_, fin_same ?_⟩) (fun h => Digits_spec h0 h1 (isS_in ⟨?_, ?_, fin_same ?_⟩))
  · simp only [List.length_append, List.length_cons, List.length_nil]; omega
  · subst h
    rw [if_pos rfl, show Lib.itoa 1 = [49] from by rw [itoa_dec (by omega)]; exact Lib.decDigits_one (by decide), List.append_assoc] at hR
    exact hR
  · simp only [List.length_append, List.length_cons, List.length_nil]; omega
  · simp only [List.length_append, List.length_cons, List.length_nil]; omega
  · rw [if_neg h, List.append_assoc] at hR
    exact hR

/-! ### The last line -/
def partF (s : List UInt8) (n : Int) (t b : List UInt8) : List UInt8 := if n > 0 then s ++ ([44, 32] ++ someF n t b) else s
def totF (n a d : Int) : List UInt8 := partF (partF ([32] ++ someF n [102, 105, 108, 101] [32, 99, 104, 97, 110, 103, 101, 100]) a [105, 110, 115, 101, 114, 116, 105, 111, 110] [40, 43, 41]) d [100, 101, 108, 101, 116, 105, 111, 110] [40, 45, 41] ++ [10]
theorem partF_len {s : List UInt8} {n : Int} {t b : List UInt8} (h1 : n ≤ 9223372036854775807) (ht : t.length ≤ 100) (hb : b.length ≤ 100) : (partF s n t b).length ≤ s.length + 302 := by
  unfold partF
  split
  · have := someF_len (n := n) (by omega) h1 ht hb
    simp only [List.length_append, List.length_cons, List.length_nil]; omega
  · omega
def totP (l : List Cnt) : AV := match sumsR l with
  | some (a, d) => .tup [.pv (.str (totF l.length a d)), .pv (.raw .nilIface)]
  | none => .tup [.pv (.str []), .pv (.iface 59 (.int .i64 1))]
def totR (l : List Cnt) : AV := match sumsR l with
  | some (a, d) => .tup [.pv (.str (totF l.length a d)), .pv (.int .i64 0)]
  | none => .tup [.pv (.str []), .pv (.int .i64 1)]
theorem Total_spec (L : Laid w0.w) {l : List Cnt} (hR : R (totP l) σ) : SCalls (cx w0) stat_Total.id [cntsA l] σ R := by
  refine stat_Total.calls ?_
  rw [stat_Total.b0_eq]
  refine sums_spec L ?_
  unfold totP at hR
  rcases sums_same l with ⟨⟨a, d⟩, h1, h2, q1, q2, q3, q4, hl⟩ | ⟨h1, h2⟩
  · simp only at q1 q2 q3 q4
    rw [h1] at hR
    rw [h2]
    have hb : (inN a && inN d) = true := by rw [Bool.and_eq_true]; exact ⟨inN_iff.2 ⟨q1, q2⟩, inN_iff.2 ⟨q3, q4⟩⟩
    unfold outP
    repeat (first | ((with_reducible show opt _ _); refine opt_in rfl ?_) | ((with_reducible show isI _ _ _); refine isI_in ?_) | ((with_reducible show isTup _ _); refine isTup_in ?_))
    refine isB_in ?_
    rw [hb]
    refine condB_split (fun h => absurd h (by decide)) (fun _ => ?_)
    repeat (first | ((with_reducible show opt _ _); refine opt_in rfl ?_) | ((with_reducible show isI _ _ _); refine isI_in ?_) | ((with_reducible show isTup _ _); refine isTup_in ?_))
    rw [List.length_map]
    have k0 := someF_len (n := (l.length : Int)) (t := [102, 105, 108, 101]) (b := [32, 99, 104, 97, 110, 103, 101, 100]) (by omega) (by omega) (by decide) (by decide)
    refine some_spec L (by omega) (by omega) (by decide) (by decide) (isS_in ⟨?_, ?_⟩)
    · simp only [List.length_cons, List.length_nil]; omega
    have fin : ∀ s, s = partF (partF ([32] ++ someF l.length [102, 105, 108, 101] [32, 99, 104, 97, 110, 103, 101, 100]) a [105, 110, 115, 101, 114, 116, 105, 111, 110] [40, 43, 41]) d [100, 101, 108, 101, 116, 105, 111, 110] [40, 45, 41] → stat_Total.n26 (stat_Total.X w0 σ.length) w0 σ.length R σ s := by
      rintro s rfl
      refine stat_Total.n26_in ?_
      rw [stat_Total.b26_eq]
      refine ⟨?_, fin_same hR⟩
      have k1 := partF_len (s := [32] ++ someF l.length [102, 105, 108, 101] [32, 99, 104, 97, 110, 103, 101, 100]) (n := a) (t := [105, 110, 115, 101, 114, 116, 105, 111, 110]) (b := [40, 43, 41]) (by omega) (by decide) (by decide)
      have k2 := partF_len (s := partF ([32] ++ someF l.length [102, 105, 108, 101] [32, 99, 104, 97, 110, 103, 101, 100]) a [105, 110, 115, 101, 114, 116, 105, 111, 110] [40, 43, 41]) (n := d) (t := [100, 101, 108, 101, 116, 105, 111, 110]) (b := [40, 45, 41]) (by omega) (by decide) (by decide)
      simp only [List.length_append, List.length_cons, List.length_nil] at *
      omega
    have mid : ∀ s, s = partF ([32] ++ someF l.length [102, 105, 108, 101] [32, 99, 104, 97, 110, 103, 101, 100]) a [105, 110, 115, 101, 114, 116, 105, 111, 110] [40, 43, 41] → stat_Total.n20 (stat_Total.X w0 σ.length) w0 σ.length R σ d s := by
      intro s hs
      refine stat_Total.n20_in ?_
      rw [stat_Total.b20_eq, condB_decide]
      have k1 := partF_len (s := [32] ++ someF l.length [102, 105, 108, 101] [32, 99, 104, 97, 110, 103, 101, 100]) (n := a) (t := [105, 110, 115, 101, 114, 116, 105, 111, 110]) (b := [40, 43, 41]) (by omega) (by decide) (by decide)
      rw [← hs] at k1
      refine ite_split (fun h => some_spec L (by omega) (by omega) (by decide) (by decide) (isS_in ⟨?_, ?_, fin _ ?_⟩)) (fun h => fin _ ?_)
      · have := someF_len (n := d) (t := [100, 101, 108, 101, 116, 105, 111, 110]) (b := [40, 45, 41]) (by omega) (by omega) (by decide) (by decide)
        simp only [List.length_cons, List.length_nil]; omega
      · have := someF_len (n := d) (t := [100, 101, 108, 101, 116, 105, 111, 110]) (b := [40, 45, 41]) (by omega) (by omega) (by decide) (by decide)
        simp only [List.length_append, List.length_cons, List.length_nil] at *; omega
      · rw [hs]; exact (if_pos h).symm
      · rw [hs]; exact (if_neg h).symm
    rw [condB_decide]
    refine ite_split (fun h => some_spec L (by omega) (by omega) (by decide) (by decide) (isS_in ⟨?_, ?_, mid _ ?_⟩)) (fun h => mid _ ?_)
    · have := someF_len (n := a) (t := [105, 110, 115, 101, 114, 116, 105, 111, 110]) (b := [40, 43, 41]) (by omega) (by omega) (by decide) (by decide)
      simp only [List.length_cons, List.length_nil]; omega
    · have := someF_len (n := a) (t := [105, 110, 115, 101, 114, 116, 105, 111, 110]) (b := [40, 43, 41]) (by omega) (by omega) (by decide) (by decide)
      simp only [List.length_append, List.length_cons, List.length_nil]; omega
    · exact (if_pos h).symm
    · exact (if_neg h).symm
  · rw [h1] at hR
    have bad : ∀ a d (b : Bool), b = false → isTup (.tup [.pv (.int .i64 a), .pv (.int .i64 d), .pv (.bool b)]) fun vs => True := fun _ _ _ _ => trivial
    cases h3 : sumsP l with
    | none =>
      unfold outP
      repeat (first | ((with_reducible show opt _ _); refine opt_in rfl ?_) | ((with_reducible show isI _ _ _); refine isI_in ?_) | ((with_reducible show isTup _ _); refine isTup_in ?_))
      refine isB_in ?_
      refine condB_split (fun _ => ?_) (fun h => absurd h (by decide))
      repeat (first | ((with_reducible show opt _ _); refine opt_in rfl ?_) | ((with_reducible show isI _ _ _); refine isI_in ?_) | ((with_reducible show isTup _ _); refine isTup_in ?_))
      exact fin_same hR
    | some p =>
      obtain ⟨a, d⟩ := p
      have hb : (inN a && inN d) = false := h2 _ h3
      unfold outP
      repeat (first | ((with_reducible show opt _ _); refine opt_in rfl ?_) | ((with_reducible show isI _ _ _); refine isI_in ?_) | ((with_reducible show isTup _ _); refine isTup_in ?_))
      refine isB_in ?_
      rw [hb]
      refine condB_split (fun _ => ?_) (fun h => absurd h (by decide))
      repeat (first | ((with_reducible show opt _ _); refine opt_in rfl ?_) | ((with_reducible show isI _ _ _); refine isI_in ?_) | ((with_reducible show isTup _ _); refine isTup_in ?_))
      exact fin_same hR
theorem rTotal_spec (L : Laid w0.w) {l : List Cnt} (hR : R (totR l) σ) : SCalls (cx w0) selvageref16_Total.id [cntsA l] σ R := by
  refine selvageref16_Total.calls ?_
  rw [selvageref16_Total.b0_eq]
  refine rsums_spec L ?_
  unfold totR at hR
  rcases sums_same l with ⟨⟨a, d⟩, h1, h2, q1, q2, q3, q4, hl⟩ | ⟨h1, h2⟩
  · simp only at q1 q2 q3 q4
    rw [h1] at hR ⊢
    unfold outR
    repeat (first | ((with_reducible show opt _ _); refine opt_in rfl ?_) | ((with_reducible show isI _ _ _); refine isI_in ?_) | ((with_reducible show isTup _ _); refine isTup_in ?_))
    refine isB_in ?_
    refine condB_split (fun h => absurd h (by decide)) (fun _ => ?_)
    repeat (first | ((with_reducible show opt _ _); refine opt_in rfl ?_) | ((with_reducible show isI _ _ _); refine isI_in ?_) | ((with_reducible show isTup _ _); refine isTup_in ?_))
    rw [List.length_map]
    have k0 := someF_len (n := (l.length : Int)) (t := [102, 105, 108, 101]) (b := [32, 99, 104, 97, 110, 103, 101, 100]) (by omega) (by omega) (by decide) (by decide)
    refine many_spec (t := [102, 105, 108, 101]) (b := [32, 99, 104, 97, 110, 103, 101, 100]) (by omega) (by omega) (by decide) (by decide) rfl rfl (isS_in ⟨?_, ?_⟩)
    · simp only [List.length_cons, List.length_nil]; omega
    have fin : ∀ s, s = partF (partF ([32] ++ someF l.length [102, 105, 108, 101] [32, 99, 104, 97, 110, 103, 101, 100]) a [105, 110, 115, 101, 114, 116, 105, 111, 110] [40, 43, 41]) d [100, 101, 108, 101, 116, 105, 111, 110] [40, 45, 41] → selvageref16_Total.n26 (selvageref16_Total.X w0 σ.length) w0 σ.length R σ s := by
      rintro s rfl
      refine selvageref16_Total.n26_in ?_
      rw [selvageref16_Total.b26_eq]
      refine ⟨?_, fin_same hR⟩
      have k1 := partF_len (s := [32] ++ someF l.length [102, 105, 108, 101] [32, 99, 104, 97, 110, 103, 101, 100]) (n := a) (t := [105, 110, 115, 101, 114, 116, 105, 111, 110]) (b := [40, 43, 41]) (by omega) (by decide) (by decide)
      have k2 := partF_len (s := partF ([32] ++ someF l.length [102, 105, 108, 101] [32, 99, 104, 97, 110, 103, 101, 100]) a [105, 110, 115, 101, 114, 116, 105, 111, 110] [40, 43, 41]) (n := d) (t := [100, 101, 108, 101, 116, 105, 111, 110]) (b := [40, 45, 41]) (by omega) (by decide) (by decide)
      simp only [List.length_append, List.length_cons, List.length_nil] at *
      omega
    have mid : ∀ s, s = partF ([32] ++ someF l.length [102, 105, 108, 101] [32, 99, 104, 97, 110, 103, 101, 100]) a [105, 110, 115, 101, 114, 116, 105, 111, 110] [40, 43, 41] → selvageref16_Total.n20 (selvageref16_Total.X w0 σ.length) w0 σ.length R σ d s := by
      intro s hs
      refine selvageref16_Total.n20_in ?_
      rw [selvageref16_Total.b20_eq, condB_decide]
      have k1 := partF_len (s := [32] ++ someF l.length [102, 105, 108, 101] [32, 99, 104, 97, 110, 103, 101, 100]) (n := a) (t := [105, 110, 115, 101, 114, 116, 105, 111, 110]) (b := [40, 43, 41]) (by omega) (by decide) (by decide)
      rw [← hs] at k1
      refine ite_split (fun h => ⟨?_, many_spec (t := [100, 101, 108, 101, 116, 105, 111, 110]) (b := [40, 45, 41]) (by omega) (by omega) (by decide) (by decide) rfl rfl (isS_in ⟨?_, fin _ ?_⟩)⟩) (fun h => fin _ ?_)
      · simp only [List.length_append, List.length_cons, List.length_nil] at *; omega
      · have := someF_len (n := d) (t := [100, 101, 108, 101, 116, 105, 111, 110]) (b := [40, 45, 41]) (by omega) (by omega) (by decide) (by decide)
        simp only [List.length_append, List.length_cons, List.length_nil] at *; omega
      · rw [hs, List.append_assoc]; exact (if_pos h).symm
      · rw [hs]; exact (if_neg h).symm
    rw [condB_decide]
    refine ite_split (fun h => ⟨?_, many_spec (t := [105, 110, 115, 101, 114, 116, 105, 111, 110]) (b := [40, 43, 41]) (by omega) (by omega) (by decide) (by decide) rfl rfl (isS_in ⟨?_, mid _ ?_⟩)⟩) (fun h => mid _ ?_)
    · simp only [List.length_append, List.length_cons, List.length_nil]; omega
    · have := someF_len (n := a) (t := [105, 110, 115, 101, 114, 116, 105, 111, 110]) (b := [40, 43, 41]) (by omega) (by omega) (by decide) (by decide)
      simp only [List.length_append, List.length_cons, List.length_nil]; omega
    · rw [List.append_assoc]; exact (if_pos h).symm
    · exact (if_neg h).symm
  · rw [h1] at hR ⊢
    unfold outR
    repeat (first | ((with_reducible show opt _ _); refine opt_in rfl ?_) | ((with_reducible show isI _ _ _); refine isI_in ?_) | ((with_reducible show isTup _ _); refine isTup_in ?_))
    refine isB_in ?_
    refine condB_split (fun _ => ?_) (fun h => absurd h (by decide))
    exact fin_same hR
end
end Go.Sv
