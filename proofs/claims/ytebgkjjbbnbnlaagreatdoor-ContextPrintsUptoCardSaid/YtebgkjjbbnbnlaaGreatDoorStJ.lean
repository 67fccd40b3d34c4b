/- Names in quotes: what the code answers. -/
import Derived.Test.YtebgkjjbbnbnlaaGreatDoorStI
set_option linter.unusedVariables false
set_option linter.unusedSimpArgs false
set_option maxRecDepth 100000
namespace Go.Sv
open Go Go.RowKit Go.Proofs
theorem escN_len (k : Nat) : (escN k).length ≤ 4 := by
  unfold escN; repeat' split
  all_goals simp [octN]
theorem flat_len : ∀ s : List UInt8, (s.flatMap esc).length ≤ 4 * s.length
  | [] => by simp
  | c :: r => by
    have := flat_len r
    have h : (esc c).length ≤ 4 := escN_len c.toNat
    rw [List.flatMap_cons, List.length_append, List.length_cons]
    omega
theorem quoteF_len (s : List UInt8) : (quoteF s).length ≤ 4 * s.length + 2 := by
  have := flat_len s
  unfold quoteF
  split
  · rw [List.length_append, List.length_append]; show 1 + _ + 1 ≤ _; omega
  · omega
section
variable {w0 : Base} {σ : Store} {R : AV → Store → Prop}
theorem letter_spec (L : Laid w0.w) {c : UInt8} (hR : R (.tup [.pv (.int .u8 (letN c.toNat : Nat)), .pv (.bool (!Nat.beq (letN c.toNat) 0))]) σ) : SCalls (cx w0) quote_letter.id [.pv (.int .u8 c.toNat)] σ R :=
  SCalls.alone L rfl (fun w1 L1 => run_calls L1 (feE_ok w1) (range_get (letter_run w1) c.toNat_lt) rfl) rfl hR
theorem escape_spec (L : Laid w0.w) {c : UInt8} (hR : R (.pv (.str (esc c))) σ) : SCalls (cx w0) selvageref02_escape.id [.pv (.int .u8 c.toNat)] σ R :=
  SCalls.alone L rfl (fun w1 L1 => run_calls L1 (feE_ok w1) (range_get (escape_run w1) c.toNat_lt) rfl) rfl hR
theorem needs_loop (name : List UInt8) (hx : name.length ≤ 140737488355328) : ∀ (r : List UInt8) (k : Nat), name.drop k = r → R (.pv (.bool (r.any badB))) σ → quote_Needs.n14 (quote_Needs.X w0 σ.length) w0 σ.length R σ name name.length k
  | [], k, h, hR => by
    have hk := drop_end h
    refine quote_Needs.n14_in ?_
    rw [quote_Needs.b15_eq, condB_decide, if_neg (by omega)]
    refine quote_Needs.n35_in ?_
    rw [quote_Needs.b35_eq]
    exact fin_same hR
  | c :: r, k, h, hR => by
    obtain ⟨h1, h2, hk⟩ := drop_facts h
    have N : ∀ t, t = badB c → quote_Needs.n29 (quote_Needs.X w0 σ.length) w0 σ.length R σ name name.length k t := by
      rintro t rfl
      refine quote_Needs.n29_in ?_
      rw [quote_Needs.b29_eq]
      rw [List.any_cons] at hR
      refine condB_split (fun g => fin_same ?_) (fun g => ?_)
      · rw [g, Bool.true_or] at hR; exact hR
      · rw [g, Bool.false_or] at hR
        rw [wrap_next hk (by omega)]
        exact needs_loop name hx r (k + 1) h2 hR
    refine quote_Needs.n14_in ?_
    rw [quote_Needs.b15_eq, condB_decide, if_pos (by omega)]
    refine opt_in (idx_str h1) (isI_in ?_)
    refine condB_split (fun g1 => N _ ?_) (fun g1 => ?_)
    · simp only [badB, g1, Bool.true_or]
    refine condB_split (fun g2 => N _ ?_) (fun g2 => ?_)
    · simp only [badB, g2, Bool.true_or, Bool.or_true]
    refine condB_split (fun g3 => N _ ?_) (fun g3 => N _ ?_)
    · simp only [badB, g3, Bool.true_or, Bool.or_true]
    · simp only [badB, g1, g2, g3, Bool.false_or]
theorem needs_spec {name : List UInt8} (hx : name.length ≤ 140737488355328) (hR : R (.pv (.bool (needsF name))) σ) : SCalls (cx w0) quote_Needs.id [.pv (.str name)] σ R := by
  refine quote_Needs.calls ?_
  rw [quote_Needs.b0_eq]
  unfold needsF at hR
  refine condB_split (fun g => fin_same ?_) (fun g => needs_loop name hx name 0 rfl ?_)
  · rw [g, Bool.true_or] at hR; exact hR
  · rw [g, Bool.false_or] at hR; exact hR
theorem rneeds_loop (name : List UInt8) (hx : name.length ≤ 140737488355328) : ∀ (r : List UInt8) (k : Nat), name.drop k = r → R (.pv (.bool (r.any badB || name == []))) σ → selvageref02_Needs.n6 (selvageref02_Needs.X w0 σ.length) w0 σ.length R σ name k
  | [], k, h, hR => by
    have hk := drop_end h
    refine selvageref02_Needs.n6_in ?_
    rw [selvageref02_Needs.b7_eq, condB_decide, if_neg (by omega)]
    refine selvageref02_Needs.n25_in ?_
    rw [selvageref02_Needs.b25_eq]
    exact fin_same hR
  | c :: r, k, h, hR => by
    obtain ⟨h1, h2, hk⟩ := drop_facts h
    have N : ∀ t, t = badB c → selvageref02_Needs.n19 (selvageref02_Needs.X w0 σ.length) w0 σ.length R σ name k t := by
      rintro t rfl
      refine selvageref02_Needs.n19_in ?_
      rw [selvageref02_Needs.b19_eq]
      rw [List.any_cons] at hR
      refine condB_split (fun g => fin_same ?_) (fun g => ?_)
      · rw [g, Bool.true_or, Bool.true_or] at hR; exact hR
      · rw [g, Bool.false_or] at hR
        rw [wrap_next hk (by omega)]
        exact rneeds_loop name hx r (k + 1) h2 hR
    refine selvageref02_Needs.n6_in ?_
    rw [selvageref02_Needs.b7_eq, condB_decide, if_pos (by omega)]
    refine opt_in (idx_str h1) (isI_in ?_)
    refine condB_split (fun g1 => N _ ?_) (fun g1 => ?_)
    · simp only [badB, g1, Bool.true_or]
    refine condB_split (fun g3 => N _ ?_) (fun g3 => ?_)
    · simp only [badB, g3, Bool.true_or, Bool.or_true]
    refine condB_split (fun g4 => N _ ?_) (fun g4 => N _ ?_)
    · simp only [badB, g4, Bool.true_or, Bool.or_true]
    · simp only [badB, g1, g3, g4, Bool.false_or, Bool.or_false]
theorem rneeds_spec {name : List UInt8} (hx : name.length ≤ 140737488355328) (hR : R (.pv (.bool (needsF name))) σ) : SCalls (cx w0) selvageref02_Needs.id [.pv (.str name)] σ R := by
  refine selvageref02_Needs.calls ?_
  rw [selvageref02_Needs.b0_eq]
  unfold needsF at hR
  rw [Bool.or_comm] at hR
  exact rneeds_loop name hx name 0 rfl hR
theorem oct_pv (c : UInt8) : [PV.int .u8 92, .int .u8 (IntKind.wrap .u8 (48 + (Int.fdiv (c.toNat : Int) (2 ^ (min (6 : Int).toNat (IntKind.bits .u8)))))), .int .u8 (IntKind.wrap .u8 (48 + (IntKind.wrap .u8 (BitVec.ofInt (IntKind.bits .u8) (Int.fdiv (c.toNat : Int) (2 ^ (min (3 : Int).toNat (IntKind.bits .u8)))) &&& BitVec.ofInt (IntKind.bits .u8) 7).toNat))), .int .u8 (IntKind.wrap .u8 (48 + (IntKind.wrap .u8 (BitVec.ofInt (IntKind.bits .u8) (c.toNat : Int) &&& BitVec.ofInt (IntKind.bits .u8) 7).toNat)))] = bytesPV (octN c.toNat) := by
  have hc := c.toNat_lt
  have h := range_get oct_run hc
  have e1 := (List.cons.inj h).1
  have e2 := (List.cons.inj (List.cons.inj h).2).1
  have e3 := (List.cons.inj (List.cons.inj (List.cons.inj h).2).2).1
  simp only [Int.ofNat_eq_natCast] at e1 e2 e3
  rw [e1, e2, e3]
  have f : ∀ n : Nat, n < 256 → (((UInt8.ofNat n).toNat : Nat) : Int) = (n : Int) := fun n h => by rw [UInt8.toNat_ofNat_of_lt' h]
  simp only [bytesPV, octN, List.map_cons, List.map_nil]
  rw [f _ (by omega), f _ (by omega), f _ (by omega)]
  rfl
theorem quote_loop (L : Laid w0.w) (name : List UInt8) (hx : name.length ≤ 17592186044416) : ∀ (r : List UInt8) (k : Nat) (acc : List UInt8), name.drop k = r → acc.length + 4 * r.length + 1 ≤ 140737488355328 →
    quote_Quote.n18 (quote_Quote.X w0 0) w0 0 (fun r' _ => r' = .pv (.str (acc ++ r.flatMap esc ++ [34]))) [.bld tB 5 acc] name (.ptr 0 0) name.length k
  | [], k, acc, h, hl => by
    have hk := drop_end h
    refine quote_Quote.n18_in ?_
    rw [quote_Quote.b19_eq, condB_decide, if_neg (by omega)]
    refine quote_Quote.n46_in ?_
    rw [quote_Quote.b46_eq]
    refine WriteByte_spec (c := 34) rfl (by omega) ?_
    refine String_spec rfl (isS_in (fin_keep (Nat.zero_le _) ?_))
    simp
  | c :: r, k, acc, h, hl => by
    obtain ⟨h1, h2, hk⟩ := drop_facts h
    have hc := c.toNat_lt
    simp only [List.length_cons] at hl
    have he : (esc c).length ≤ 4 := escN_len c.toNat
    have next : ∀ s Z, s = acc ++ esc c → quote_Quote.n45 (quote_Quote.X w0 0) w0 0 (fun r' _ => r' = .pv (.str (acc ++ (c :: r).flatMap esc ++ [34]))) ([.bld tB 5 s] ++ Z) name (.ptr 0 0) name.length k := by
      rintro s Z rfl
      refine quote_Quote.n45_in ?_
      rw [quote_Quote.b45_eq, wrap_next hk (by omega)]
      refine quote_Quote.n18_weak (EWeak.drop (τ := [.bld tB 5 (acc ++ esc c)]) glob0 (Nat.zero_le _) rfl rfl) ?_
      have := quote_loop L name hx r (k + 1) (acc ++ esc c) h2 (by simp only [List.length_append]; omega)
      simpa [List.flatMap_cons, List.append_assoc] using this
    refine quote_Quote.n18_in ?_
    rw [quote_Quote.b19_eq, condB_decide, if_pos (by omega)]
    refine opt_in (idx_str h1) (isI_in ?_)
    refine letter_spec L ?_
    repeat ((with_reducible first | apply opt_in | apply wI | apply wT | apply wP); exact rfl)
    refine isB_in ?_
    refine condB_split (fun g => ?_) (fun g => ?_)
    · have hn : letN c.toNat ≠ 0 := fun e => by rw [e] at g; exact absurd g (by decide)
      have hl8 : letN c.toNat < 256 := by unfold letN; split <;> omega
      have e : ((letN c.toNat : Nat) : Int) = ((UInt8.ofNat (letN c.toNat)).toNat : Int) := by rw [UInt8.toNat_ofNat_of_lt' hl8]
      refine WriteByte_spec (c := 92) rfl (by omega) ?_
      rw [e]
      refine WriteByte_spec (c := UInt8.ofNat (letN c.toNat)) rfl (by simp only [List.length_append, List.length_cons, List.length_nil]; omega) ?_
      refine next _ [] ?_
      rw [List.append_assoc]
      show _ = acc ++ escN c.toNat
      unfold escN
      rw [if_pos hn]; rfl
    · have hn : ¬ letN c.toNat ≠ 0 := fun h => h (Nat.eq_of_beq_eq_true (by rw [Bool.not_eq_false'] at g; exact g))
      have N : ∀ t, t = decide (c.toNat < 32 ∨ 127 ≤ c.toNat) → quote_Quote.n42 (quote_Quote.X w0 0) w0 0 (fun r' _ => r' = .pv (.str (acc ++ (c :: r).flatMap esc ++ [34]))) [.bld tB 5 acc] name (.ptr 0 0) c.toNat name.length k t := by
        rintro t rfl
        refine quote_Quote.n42_in ?_
        rw [quote_Quote.b42_eq, condB_decide]
        refine ite_split (fun g2 => ?_) (fun g2 => ?_)
        · refine ⟨by decide, by decide, ?_⟩
          refine opt2_in (v := .arr 1 4 0 4) (s := [.bld tB 5 acc, .arr 1 (bytesPV (octN c.toNat)) false]) (by rw [← oct_pv]; rfl) ?_
          refine Write_spec (es := 1) (t := octN c.toNat) rfl rfl (by simp [octN]) (by simp only [octN, List.length_cons, List.length_nil]; omega) ?_
          refine next _ [.arr 1 (bytesPV (octN c.toNat)) false] ?_
          show _ = acc ++ escN c.toNat
          unfold escN
          rw [if_neg hn, if_pos g2]
        · refine WriteByte_spec (c := c) rfl (by omega) ?_
          refine next _ [] ?_
          show _ = acc ++ escN c.toNat
          unfold escN
          rw [if_neg hn, if_neg g2]
          simp
      rw [condB_decide]
      refine ite_split (fun g1 => N _ ?_) (fun g1 => N _ ?_)
      · exact (decide_eq_true (.inl (by omega))).symm
      · rw [decide_eq_decide]; omega
theorem Quote_spec (L : Laid w0.w) {name : List UInt8} (hx : name.length ≤ 17592186044416) (hR : R (.pv (.str (quoteF name))) σ) : SCalls (cx w0) quote_Quote.id [.pv (.str name)] σ R := by
  refine SCalls.alone L rfl (fun w1 L1 => ?_) rfl hR
  refine quote_Quote.calls ?_
  rw [quote_Quote.b0_eq]
  refine needs_spec (by omega) (isB_in ?_)
  rw [condB_not]
  unfold quoteF
  refine condB_split (fun g => ?_) (fun g => fin_same ?_)
  · rw [if_pos g]
    refine WriteByte_spec (c := 34) rfl (by decide) ?_
    exact quote_loop L1 name hx name 0 [34] rfl (by simp only [List.length_cons, List.length_nil]; omega)
  · rw [if_neg (by rw [g]; decide)]
theorem rquote_loop (L : Laid w0.w) (name : List UInt8) (hx : name.length ≤ 17592186044416) : ∀ (r : List UInt8) (k : Nat) (acc : List UInt8), name.drop k = r → acc.length + 4 * r.length + 1 ≤ 140737488355328 →
    selvageref02_Quote.n16 (selvageref02_Quote.X w0 0) w0 0 (fun r' _ => r' = .pv (.str (acc ++ r.flatMap esc ++ [34]))) [.arr 1 (bytesPV acc) false] name (.arr 0 acc.length 0 acc.length) k
  | [], k, acc, h, hl => by
    have hk := drop_end h
    refine selvageref02_Quote.n16_in ?_
    rw [selvageref02_Quote.b17_eq, condB_decide, if_neg (by omega)]
    refine selvageref02_Quote.n27_in ?_
    rw [selvageref02_Quote.b27_eq]
    refine opt2_in rfl ?_
    refine opt2_in (append_bytes (id := 0) (acc := acc) (s := [34]) rfl rfl (by simp only [List.length_cons, List.length_nil]; omega)) ?_
    refine opt2_in (conv_bytes (id := 0) (acc := acc ++ [34]) rfl) ?_
    refine isS_in (fin_keep (Nat.zero_le _) ?_)
    simp
  | c :: r, k, acc, h, hl => by
    obtain ⟨h1, h2, hk⟩ := drop_facts h
    simp only [List.length_cons] at hl
    have he : (esc c).length ≤ 4 := escN_len c.toNat
    refine selvageref02_Quote.n16_in ?_
    rw [selvageref02_Quote.b17_eq, condB_decide, if_pos (by omega)]
    refine opt_in (idx_str h1) (isI_in ?_)
    refine escape_spec L (isS_in ?_)
    refine opt2_in (append_bytes (id := 0) (acc := acc) (s := esc c) rfl rfl (by omega)) ?_
    rw [wrap_next hk (by omega)]
    have := rquote_loop L name hx r (k + 1) (acc ++ esc c) h2 (by simp only [List.length_append]; omega)
    simpa [List.flatMap_cons, List.append_assoc] using this
theorem rQuote_spec (L : Laid w0.w) {name : List UInt8} (hx : name.length ≤ 17592186044416) (hR : R (.pv (.str (quoteF name))) σ) : SCalls (cx w0) selvageref02_Quote.id [.pv (.str name)] σ R := by
  refine SCalls.alone L rfl (fun w1 L1 => ?_) rfl hR
  refine selvageref02_Quote.calls ?_
  rw [selvageref02_Quote.b0_eq]
  refine rneeds_spec (by omega) (isB_in ?_)
  rw [condB_not]
  unfold quoteF
  refine condB_split (fun g => ?_) (fun g => fin_same ?_)
  · rw [if_pos g]
    refine opt2_in (v := .arr 0 1 0 1) (s := [.arr 1 (bytesPV [34]) false]) rfl ?_
    exact rquote_loop L1 name hx name 0 [34] rfl (by simp only [List.length_cons, List.length_nil]; omega)
  · rw [if_neg (by rw [g]; decide)]
end
end Go.Sv
