/- A hunk's first line: what the program answers. -/
import Derived.Test.YtgdnoobpnhmpjaaGreatDoorSmQ
set_option linter.unusedVariables false
set_option linter.unusedSimpArgs false
set_option maxRecDepth 100000
namespace Go.Sv
open Go Go.RowKit Go.Proofs
theorem range_get {β : Type} {f g : Nat → β} {n : Nat} (h : (List.range n).map f = (List.range n).map g) {k : Nat} (hk : k < n) : f k = g k := by
  have := congrArg (fun l => l[k]?) h
  simpa [hk] using this
def asP : List PV := (List.range 256).map fun k => .bool (Nat.ble 48 k && Nat.ble k 57)
def asS : Store := [.cells 178 (asP.map .pv)]
theorem asS_len : List.length asS = 1 := rfl
noncomputable def feA : List (FuncId × FE) := [(strings_makeASCIISet.id, strings_makeASCIISet.fe), (strings_asciiSet_contains.id, strings_asciiSet_contains.fe)]
theorem feA_ok (w0 : Base) : FEsOK (cx w0) feA := ⟨strings_makeASCIISet.ok w0, strings_asciiSet_contains.ok w0, trivial⟩
theorem make_run (w0 : Base) : rcall (cx w0) (feTab feA) (primOf primsX) 1000 60 strings_makeASCIISet.id [.pv (.str [48, 49, 50, 51, 52, 53, 54, 55, 56, 57])] [] = some (.tup [.pv (.agg asP), .pv (.bool true)], []) := by kernel_rfl
theorem con_run (w0 : Base) : (List.range 256).map (fun k => rcall (cx w0) (feTab feA) (primOf primsX) 1000 40 strings_asciiSet_contains.id [.ptr 0 0, .pv (.int .u8 (Int.ofNat k))] asS) = (List.range 256).map (fun k => some (.pv (.bool (Nat.ble 48 k && Nat.ble k 57)), asS)) := by kernel_rfl
def cutA (s w : Ln) : AV := match behF s w with
  | some t => .tup [.pv (.str t), .pv (.bool true)]
  | none => .tup [.pv (.str s), .pv (.bool false)]
section
variable {w0 : Base} {σ : Store} {R : AV → Store → Prop}
theorem con_spec (L : Laid w0.w) {c : UInt8} (hR : R (.pv (.bool (isDig c))) asS) : SCalls (cx w0) strings_asciiSet_contains.id [.ptr 0 0, .pv (.int .u8 c.toNat)] asS R := by
  have e : isDig c = (Nat.ble 48 c.toNat && Nat.ble c.toNat 57) := by
    unfold isDig
    have h : ∀ a b : Nat, decide (a ≤ b) = Nat.ble a b := fun a b => by
      rw [Bool.eq_iff_iff, decide_eq_true_eq, Nat.ble_eq]
    rw [h, h]
  rw [e] at hR
  exact run_callsX L (feA_ok w0) (range_get (con_run w0) c.toNat_lt) hR
theorem trimL_loop (L : Laid w0.w) : ∀ (s : Ln), s.length ≤ 140737488355328 → R (.pv (.str (s.dropWhile isDig))) asS → strings_trimLeftASCII.n4 (strings_trimLeftASCII.X w0 1) w0 1 R asS s (.ptr 0 0)
  | [], hs, hR => by
    refine strings_trimLeftASCII.n4_in ?_
    rw [strings_trimLeftASCII.b5_eq, condB_decide, if_neg (by simp)]
    refine strings_trimLeftASCII.n19_in ?_
    rw [strings_trimLeftASCII.b19_eq]
    exact fin_keep (Nat.le_of_eq asS_len.symm) hR
  | c :: s, hs, hR => by
    simp only [List.length_cons] at hs
    refine strings_trimLeftASCII.n4_in ?_
    rw [strings_trimLeftASCII.b5_eq, condB_decide, if_pos (by simp only [List.length_cons]; omega)]
    refine opt_in (idx_str (k := 0) (c := c) rfl) (isI_in ?_)
    refine con_spec L (isB_in ?_)
    rw [condB_not]
    rw [List.dropWhile_cons] at hR
    refine condB_split (fun g => ?_) (fun g => ?_)
    · rw [if_pos g] at hR
      refine opt_in (slice_drop (k := 1) (by simp)) (isS_in ?_)
      exact trimL_loop L s (by omega) hR
    · rw [if_neg (by rw [g]; decide)] at hR
      refine strings_trimLeftASCII.n19_in ?_
      rw [strings_trimLeftASCII.b19_eq]
      exact fin_keep (Nat.le_of_eq asS_len.symm) hR
theorem TrimLD_spec (L : Laid w0.w) {s : Ln} (hs : s.length ≤ 140737488355328) (hR : R (.pv (.str (rest s))) σ) : SCalls (cx w0) strings_TrimLeft.id [.pv (.str s), .pv (.str [48, 49, 50, 51, 52, 53, 54, 55, 56, 57])] σ R := by
  refine SCalls.alone L rfl (fun w1 L1 => ?_) rfl hR
  have h13 : strings_TrimLeft.n13 (strings_TrimLeft.X w1 0) w1 0 (fun r _ => r = .pv (.str (rest s))) [] s [48, 49, 50, 51, 52, 53, 54, 55, 56, 57] false := by
    refine strings_TrimLeft.n13_in ?_
    rw [strings_TrimLeft.b13_eq, condB_false']
    refine run_callsX L1 (feA_ok w1) (make_run w1) ?_
    refine isTup_in (opt_in rfl (isTup_in (opt_in rfl (isB_in ?_))))
    refine opt_in (v := asS) (by kernel_rfl) ?_
    rw [condB_true']
    refine strings_trimLeftASCII.calls ?_
    rw [strings_trimLeftASCII.b0_eq, asS_len]
    refine trimL_loop L1 s hs (isS_in (fin_keep (Nat.zero_le _) rfl))
  have h5 : ∀ t, (t = true → s = []) → strings_TrimLeft.n5 (strings_TrimLeft.X w1 0) w1 0 (fun r _ => r = .pv (.str (rest s))) [] s [48, 49, 50, 51, 52, 53, 54, 55, 56, 57] t := by
    intro t ht
    refine strings_TrimLeft.n5_in ?_
    rw [strings_TrimLeft.b5_eq]
    refine condB_split (fun g => ?_) (fun g => ?_)
    · rw [ht g]
      exact fin_keep (Nat.zero_le _) rfl
    · rw [condB_ibeq, if_neg (by decide)]
      exact h13
  refine strings_TrimLeft.calls ?_
  rw [strings_TrimLeft.b0_eq, condB_sbeq]
  refine ite_split (fun g => h5 _ (fun _ => g)) (fun g => h5 _ (fun e => by cases e))
theorem digits_spec (L : Laid w0.w) {s : Ln} (hs : s.length ≤ 140737488355328) (hR : R (.tup [.pv (.str (rest s)), .pv (.bool (decide (digs s ≠ [])))]) σ) : SCalls (cx w0) stream_digits.id [.pv (.str s)] σ R := by
  refine stream_digits.calls ?_
  rw [stream_digits.b0_eq]
  refine TrimLD_spec L hs (isS_in (fin_same ?_))
  have e : decide (((rest s).length : Int) < (s.length : Int)) = decide (digs s ≠ []) := by
    have := congrArg List.length (digs_rest s)
    rw [List.length_append] at this
    rw [decide_eq_decide]
    constructor
    · intro h e; rw [e] at this; simp only [List.length_nil] at this; omega
    · intro h; have := List.length_pos_iff.2 h; omega
  rw [e]
  exact hR
theorem slHas_spec {s p : Ln} (hR : R (.pv (.bool (Lib.hasPrefix s p))) σ) : SCalls (cx w0) stringslite_HasPrefix.id [.pv (.str s), .pv (.str p)] σ R := by
  have fin : ∀ t, t = Lib.hasPrefix s p → stringslite_HasPrefix.n4 (stringslite_HasPrefix.X w0 σ.length) w0 σ.length R σ t := by
    rintro t rfl
    refine stringslite_HasPrefix.n4_in ?_
    rw [stringslite_HasPrefix.b4_eq]
    exact fin_same hR
  refine stringslite_HasPrefix.calls ?_
  rw [stringslite_HasPrefix.b0_eq, condB_decide]
  refine ite_split (fun g => ?_) (fun g => fin _ ?_)
  · refine opt_in (slice_take (by omega)) (isS_in (fin _ ?_))
    rw [pre_take (by omega)]
  · cases h : Lib.hasPrefix s p with
    | false => rfl
    | true => have := pre_len h; omega
theorem CutP_spec {s p : Ln} (hR : R (cutA s p) σ) : SCalls (cx w0) strings_CutPrefix.id [.pv (.str s), .pv (.str p)] σ R := by
  refine strings_CutPrefix.calls ?_
  rw [strings_CutPrefix.b0_eq]
  refine stringslite_CutPrefix.calls ?_
  rw [stringslite_CutPrefix.b0_eq]
  refine slHas_spec (isB_in ?_)
  rw [condB_not]
  unfold cutA behF at hR
  refine condB_split (fun g => ?_) (fun g => ?_)
  · rw [if_pos g] at hR
    refine opt_in (slice_drop (pre_len g)) (isS_in (fin_same ?_))
    repeat ((with_reducible first | apply opt_in | apply wI | apply wT | apply wP | apply wS | apply wB); exact rfl)
    exact fin_same hR
  · rw [if_neg (by rw [g]; decide)] at hR
    refine fin_same ?_
    repeat ((with_reducible first | apply opt_in | apply wI | apply wT | apply wP | apply wS | apply wB); exact rfl)
    exact fin_same hR
theorem Cut44 (L : Laid w0.w) {p t : Ln} (hp : ∀ c ∈ p, c ≠ 44) (hl : p.length + t.length ≤ 1099511627776) : (R (.tup [.pv (.str p), .pv (.str t), .pv (.bool true)]) σ → SCalls (cx w0) strings_Cut.id [.pv (.str (p ++ 44 :: t)), .pv (.str [44])] σ R) ∧ (R (.tup [.pv (.str p), .pv (.str []), .pv (.bool false)]) σ → SCalls (cx w0) strings_Cut.id [.pv (.str p), .pv (.str [44])] σ R) := by
  constructor
  · intro hR
    refine strings_Cut.calls ?_
    rw [strings_Cut.b0_eq]
    refine stringslite_Cut.calls ?_
    rw [stringslite_Cut.b0_eq]
    refine slIndex1_spec (isI_in ?_)
    rw [index_at p t hp, condB_decide, if_pos (by omega)]
    have hlen : (p ++ 44 :: t).length = p.length + (t.length + 1) := by simp
    have hl1 : List.length ([44] : List UInt8) = 1 := rfl
    rw [hl1, wrap_i64 (by omega) (by omega), show (p.length : Int) + ((1 : Nat) : Int) = ((p.length + 1 : Nat) : Int) by omega]
    refine opt_in (slice_take (by omega)) (isS_in (opt_in (slice_drop (by omega)) (isS_in ⟨opt_in (slice_drop (by omega)) rfl, fin_same ?_⟩)))
    have e1 : (p ++ 44 :: t).take p.length = p := by simp
    have e2 : (p ++ 44 :: t).drop (p.length + 1) = t := by rw [List.drop_append]; simp
    rw [e1, e2]
    repeat ((with_reducible first | apply opt_in | apply wI | apply wT | apply wP | apply wS | apply wB); exact rfl)
    exact fin_same hR
  · intro hR
    refine strings_Cut.calls ?_
    rw [strings_Cut.b0_eq]
    refine stringslite_Cut.calls ?_
    rw [stringslite_Cut.b0_eq]
    refine slIndex1_spec (isI_in ?_)
    rw [index_no p hp, condB_decide, if_neg (by decide)]
    refine fin_same ?_
    repeat ((with_reducible first | apply opt_in | apply wI | apply wT | apply wP | apply wS | apply wB); exact rfl)
    exact fin_same hR
theorem small_spec (L : Laid w0.w) {s : Ln} (hs : s.length ≤ 1099511627776) (hd : ∀ c ∈ s, isDig c = true) (hR : R (.pv (.bool (decide (valD 0 s ≤ 2147483647)))) σ) : SCalls (cx w0) stream_small.id [.pv (.str s)] σ R := by
  have hsub : ∀ c ∈ s.dropWhile (· == 48), isDig c = true := fun c hc => hd c ((List.dropWhile_sublist _).subset hc)
  refine stream_small.calls ?_
  rw [stream_small.b0_eq]
  refine TrimLeft1_spec (by decide) (isS_in ?_)
  rw [condB_decide]
  refine ite_split (fun g => ?_) (fun g => ?_)
  · rw [decide_eq_false (by have := long_val hd (by omega); omega)] at hR
    exact fin_same hR
  · have hlen : ([48] ++ s.dropWhile (· == 48)).length = 1 + (s.dropWhile (· == 48)).length := by rw [List.length_append]; rfl
    have hv : valD 0 ([48] ++ s.dropWhile (· == 48)) = valD 0 s := by rw [valD_app]; exact zeros_val s
    have hb : ∀ (l : Ln) (n : Nat), (∀ c ∈ l, isDig c = true) → valD n l < (n + 1) * 10 ^ l.length := by
      intro l
      induction l with
      | nil => intro n _; show n < (n + 1) * 10 ^ 0; rw [Nat.pow_zero, Nat.mul_one]; exact Nat.lt_succ_self n
      | cons c l ih =>
        intro n h
        have hc := dig_range (h c (by simp))
        refine Nat.lt_of_lt_of_le (ih (n * 10 + (c.toNat - 48)) (fun x hx => h x (List.mem_cons_of_mem _ hx))) ?_
        rw [List.length_cons, Nat.pow_succ, Nat.mul_comm (10 ^ l.length) 10, ← Nat.mul_assoc]
        exact Nat.mul_le_mul_right _ (by omega)
    have h1 : valD 0 s < 9223372036854775808 := by
      rw [← zeros_val]
      have := hb _ 0 hsub
      have h2 : (10 : Nat) ^ (s.dropWhile (· == 48)).length ≤ 10 ^ 10 := Nat.pow_le_pow_right (by decide) (by omega)
      have h3 : (10 : Nat) ^ 10 = 10000000000 := rfl
      rw [h3] at h2
      rw [Nat.zero_add, Nat.one_mul] at this
      exact Nat.lt_of_lt_of_le this (Nat.le_trans h2 (by decide))
    refine ⟨by show 1 + _ ≤ _; omega, ?_⟩
    refine Atoi_spec (by rw [hlen]; omega) (atoi_val (by simp) (fun c hc => ?_) (by rw [hv]; exact h1)) ?_
    · rcases List.mem_append.1 hc with h | h
      · simp only [List.mem_singleton] at h; subst h; rfl
      · exact hsub c h
    rw [hv]
    repeat ((with_reducible first | apply opt_in | apply wI | apply wT | apply wP | apply wS | apply wB); exact rfl)
    rw [show decide (((valD 0 s : Nat) : Int) ≤ 2147483647) = decide (valD 0 s ≤ 2147483647) by rw [decide_eq_decide]; omega]
    exact fin_same hR
end
end Go.Sv
