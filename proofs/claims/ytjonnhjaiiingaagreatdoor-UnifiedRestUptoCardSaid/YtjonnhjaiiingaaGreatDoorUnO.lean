/- What the code of reading answers: octal digits, names in quotes, numbers, a hunk's first line. -/
import Derived.Test.YtjonnhjaiiingaaGreatDoorUnN
set_option linter.unusedVariables false
set_option linter.unusedSimpArgs false
set_option maxRecDepth 100000
namespace Go.Sv
open Go Go.RowKit Go.Proofs
section
variable {w0 : Base} {σ : Store} {R : AV → Store → Prop}
def octA (s : Ln) : AV := match octF s with
  | some v => .tup [.pv (.int .u8 (v : Nat)), .pv (.bool true)]
  | none => .tup [.pv (.int .u8 0), .pv (.bool false)]
theorem oct_round {s : Ln} {i : Nat} {d : UInt8} {v : AV} (hi : i < 3) (hd : s[i]? = some d) (n : Int) (n0 : 0 ≤ n) (n1 : n ≤ 255)
    (hbad : ¬ (48 ≤ d.toNat ∧ d.toNat ≤ 55) → v = .tup [.pv (.int .u8 0), .pv (.bool false)])
    (next : 48 ≤ d.toNat ∧ d.toNat ≤ 55 → quote_octal.n16 (quote_octal.X w0 0) w0 0 (fun r' _ => r' = v) [] s (n * 8 + ((d.toNat : Int) - 48)) ((i + 1 : Nat) : Int)) :
    quote_octal.n16 (quote_octal.X w0 0) w0 0 (fun r' _ => r' = v) [] s n (i : Int) := by
  have hdl := d.toNat_lt
  have key : ∀ t, t = !decide (48 ≤ d.toNat ∧ d.toNat ≤ 55) → quote_octal.n30 (quote_octal.X w0 0) w0 0 (fun r' _ => r' = v) [] s n (i : Int) (i : Int) t := by
    rintro t rfl
    refine quote_octal.n30_in ?_
    rw [quote_octal.b30_eq, condB_not, condB_decide]
    refine ite_split (fun g => ?_) (fun g => fin_keep (Nat.zero_le _) (hbad g).symm)
    refine opt_in (idx_str hd) (isI_in ?_)
    rw [wrap_u8 (n := (d.toNat : Int) - 48) (by omega) (by omega), wrap_i64 (n := n * 8) (by omega) (by omega), wrap_i64 (n := (d.toNat : Int) - 48) (by omega) (by omega), wrap_i64 (by omega) (by omega), wrap_i64 (by omega) (by omega)]
    exact next g
  refine quote_octal.n16_in ?_
  rw [quote_octal.b17_eq, condB_decide, if_pos (by omega)]
  refine opt_in (idx_str hd) (isI_in ?_)
  rw [condB_decide]
  refine ite_split (fun g => key _ ?_) (fun g => ?_)
  · rw [decide_eq_false (by omega)]; rfl
  · refine opt_in (idx_str hd) (isI_in (key _ ?_))
    have h : (48 ≤ d.toNat ∧ d.toNat ≤ 55) ↔ ¬ ((d.toNat : Int) > 55) := by omega
    rw [decide_eq_decide.2 h, decide_not, Bool.not_not]
theorem octal_spec (L : Laid w0.w) {s : Ln} (hR : R (octA s) σ) : SCalls (cx w0) quote_octal.id [.pv (.str s)] σ R := by
  refine SCalls.alone L rfl (fun w1 L1 => ?_) (by unfold octA; split <;> rfl) hR
  refine quote_octal.calls ?_
  rw [quote_octal.b0_eq, condB_decide]
  have bad : ∀ t, t = true → octF s = none → quote_octal.n5 (quote_octal.X w1 0) w1 0 (fun r' _ => r' = octA s) [] s t := by
    rintro t rfl h
    refine quote_octal.n5_in ?_
    rw [quote_octal.b5_eq, condB_true']
    refine fin_keep (Nat.zero_le _) ?_
    unfold octA; rw [h]
  match s, bad with
  | [], bad => rw [if_pos (by decide)]; exact bad _ rfl rfl
  | [a], bad => rw [if_pos (by simp)]; exact bad _ rfl rfl
  | [a, b], bad => rw [if_pos (by simp)]; exact bad _ rfl rfl
  | a :: b :: c :: r, bad =>
    rw [if_neg (by simp only [List.length_cons]; omega)]
    refine opt_in (idx_str (c := a) rfl) (isI_in ?_)
    have none_of : ¬ (48 ≤ a.toNat ∧ a.toNat ≤ 51 ∧ 48 ≤ b.toNat ∧ b.toNat ≤ 55 ∧ 48 ≤ c.toNat ∧ c.toNat ≤ 55) → octF (a :: b :: c :: r) = none := fun h => by
      show octV _ _ _ = none
      unfold octV; rw [if_neg h]
    by_cases ha : (a.toNat : Int) > 51
    · exact bad _ (decide_eq_true ha) (none_of (by omega))
    have start : ∀ t, t = false → quote_octal.n5 (quote_octal.X w1 0) w1 0 (fun r' _ => r' = octA (a :: b :: c :: r)) [] (a :: b :: c :: r) t := by
      rintro t rfl
      refine quote_octal.n5_in ?_
      rw [quote_octal.b5_eq, condB_false']
      have no : ¬ (48 ≤ a.toNat ∧ a.toNat ≤ 51 ∧ 48 ≤ b.toNat ∧ b.toNat ≤ 55 ∧ 48 ≤ c.toNat ∧ c.toNat ≤ 55) → octA (a :: b :: c :: r) = .tup [.pv (.int .u8 0), .pv (.bool false)] := fun h => by
        unfold octA; rw [none_of h]
      refine oct_round (i := 0) (d := a) (by omega) rfl 0 (by omega) (by omega) (fun h => no (by omega)) (fun g1 => ?_)
      refine oct_round (i := 1) (d := b) (by omega) rfl _ (by omega) (by omega) (fun h => no (by omega)) (fun g2 => ?_)
      refine oct_round (i := 2) (d := c) (by omega) rfl _ (by omega) (by omega) (fun h => no (by omega)) (fun g3 => ?_)
      refine quote_octal.n16_in ?_
      rw [quote_octal.b17_eq, condB_decide, if_neg (by omega)]
      refine quote_octal.n37_in ?_
      rw [quote_octal.b37_eq, wrap_u8 (by omega) (by omega)]
      refine fin_keep (Nat.zero_le _) ?_
      have : octF (a :: b :: c :: r) = some ((a.toNat - 48) * 64 + (b.toNat - 48) * 8 + (c.toNat - 48)) := by
        show octV _ _ _ = _
        unfold octV; rw [if_pos (by omega)]
      unfold octA
      rw [this]
      simp only
      congr 3
      congr 1
      omega
    exact start _ (decide_eq_false ha)
def unqA (x : Option (Ln × Ln)) : AV := match x with
  | some (p, r) => .tup [.pv (.str p), .pv (.str r), .pv (.raw .nilIface)]
  | none => .tup [.pv (.str []), .pv (.str []), .pv (.iface 50 (.int .i64 20))]
theorem unqA_under (x : Option (Ln × Ln)) : AV.under 0 (unqA x) = true := by unfold unqA; split <;> rfl
theorem meantT_lt {k m : Nat} (h : meantT k = some m) : m < 256 := by
  unfold meantT at h
  split at h <;> first | (cases h; done) | (cases h; decide)
theorem octF_lt {s : Ln} {v : Nat} (h : octF s = some v) : v < 256 := by
  unfold octF at h
  split at h
  · unfold octV at h
    split at h
    · cases h; omega
    · cases h
  · cases h
theorem octF_len {s : Ln} {v : Nat} (h : octF s = some v) : 3 ≤ s.length := by
  unfold octF at h
  split at h
  · simp only [List.length_cons]; omega
  · cases h
theorem uq_loop (L : Laid w0.w) (text : Ln) (hx : text.length ≤ 8388608) (v : AV) : ∀ (f : Nat) (r : Ln) (i : Nat) (acc : Ln), text.drop i = r → i ≤ text.length → r.length < f → acc.length + r.length ≤ 8388608 → v = unqA (uqL f r acc) →
    quote_Unquote.n24 (quote_Unquote.X w0 0) w0 0 (fun r' _ => r' = v) [.arr 1 (bytesPV acc) false] text (.arr 0 acc.length 0 acc.length) (i : Int)
  | 0, r, i, acc, _, _, h, _, _ => absurd h (Nat.not_lt_zero _)
  | f + 1, r, i, acc, hd, hi, hf, hl, hv => by
    have err : ∀ σ : Store, v = unqA none → quote_Unquote.n90 (quote_Unquote.X w0 0) w0 0 (fun r' _ => r' = v) σ := by
      intro σ h
      refine quote_Unquote.n90_in ?_
      rw [quote_Unquote.b90_eq]
      refine opt_in rfl (fin_keep (Nat.zero_le _) ?_)
      rw [h]; rfl
    refine quote_Unquote.n24_in ?_
    rw [quote_Unquote.b25_eq, condB_decide]
    cases r with
    | nil =>
      have hk := drop_end hd
      rw [if_neg (by omega)]
      exact err _ (by rw [hv]; rfl)
    | cons c r =>
      obtain ⟨h1, h2, hk⟩ := drop_facts hd
      simp only [List.length_cons] at hf hl
      have hlen : (text.drop (i + 1)).length = r.length := by rw [h2]
      rw [List.length_drop] at hlen
      rw [if_pos (by omega)]
      refine opt_in (idx_str h1) (isI_in ?_)
      rw [uqL.eq_def] at hv
      simp only at hv
      have wi : IntKind.wrap .i64 ((i : Int) + 1) = ((i + 1 : Nat) : Int) := wrap_next hk (by omega)
      have more : ∀ (b : UInt8) (r' : Ln) (j : Nat) (σ : Store), text.drop j = r' → j ≤ text.length → r'.length < f → acc.length + 1 + r'.length ≤ 8388608 → v = unqA (uqL f r' (acc ++ [b])) →
          quote_Unquote.n24 (quote_Unquote.X w0 0) w0 0 (fun r' _ => r' = v) [.arr 1 (bytesPV (acc ++ [b])) false] text (.arr 0 (acc ++ [b]).length 0 (acc ++ [b]).length) (j : Int) := by
        intro b r' j σ e1 e2 e3 e4 e5
        exact uq_loop L text hx v f r' j (acc ++ [b]) e1 e2 e3 (by simp only [List.length_append, List.length_singleton]; omega) e5
      rw [condB_ibeq]
      refine ite_split (fun g => ?_) (fun g => ?_)
      · have hc : c = 34 := UInt8.toNat_inj.1 (by have : UInt8.toNat 34 = 34 := rfl; omega)
        rw [if_pos hc] at hv
        refine opt2_in (conv_bytes (id := 0) (acc := acc) rfl) (isS_in ?_)
        rw [wi]
        refine opt_in (slice_drop (by omega)) (isS_in ⟨opt_in (slice_drop (by omega)) rfl, fin_keep (Nat.zero_le _) ?_⟩)
        rw [hv, h2]; rfl
      · have hc : ¬ c = 34 := fun e => g (by rw [e]; rfl)
        rw [if_neg hc] at hv
        rw [condB_ibeq]
        refine ite_split (fun g2 => ?_) (fun g2 => ?_)
        · have hc2 : c = 10 := UInt8.toNat_inj.1 (by have : UInt8.toNat 10 = 10 := rfl; omega)
          rw [if_pos hc2] at hv
          refine opt_in rfl (fin_keep (Nat.zero_le _) ?_)
          rw [hv]; rfl
        · have hc2 : ¬ c = 10 := fun e => g2 (by rw [e]; rfl)
          rw [if_neg hc2] at hv
          rw [condB_ibne]
          refine ite_split (fun g3 => ?_) (fun g3 => ?_)
          · have hc3 : c = 92 := UInt8.toNat_inj.1 (by have : UInt8.toNat 92 = 92 := rfl; omega)
            rw [if_neg (by rw [hc3]; simp)] at hv
            rw [wi]
            refine opt_in (slice_drop (by omega)) (isS_in ?_)
            rw [h2, condB_sbeq]
            refine ite_split (fun g4 => ?_) (fun g4 => ?_)
            · subst g4
              exact err _ (by rw [hv])
            · cases r with
              | nil => exact absurd rfl g4
              | cons d r1 =>
                obtain ⟨h3, h4, hk2⟩ := drop_facts h2
                simp only [List.length_cons] at hf hl hlen
                refine opt_in (idx_str (c := d) rfl) (isI_in ?_)
                refine meant_spec L ?_
                unfold meantA
                simp only at hv
                cases hm : meantT d.toNat with
                | some m =>
                  rw [hm] at hv
                  have hm2 := meantT_lt hm
                  have hm3 : ((UInt8.ofNat m).toNat : Int) = (m : Int) := by rw [UInt8.toNat_ofNat_of_lt' hm2]
                  repeat ((with_reducible first | apply opt_in | apply wI | apply wT | apply wP | apply wS | apply wB); exact rfl)
                  rw [condB_true']
                  refine opt2_in (v := .pv (.sl [.int .u8 (Int.ofNat m)])) rfl ?_
                  refine opt2_in (append_bytes (id := 0) (acc := acc) (s := [UInt8.ofNat m]) (by
                    show some [PV.int .u8 (Int.ofNat m)] = some (bytesPV [UInt8.ofNat m])
                    simp only [bytesPV, List.map_cons, List.map_nil]
                    rw [hm3]; rfl) rfl (by simp only [List.length_singleton]; omega)) ?_
                  have w2 : IntKind.wrap .i64 ((i : Int) + 2) = ((i + 2 : Nat) : Int) := by rw [wrap_i64 (by omega) (by omega)]; omega
                  rw [w2]
                  exact more _ r1 (i + 2) [] h4 (by omega) (by omega) (by omega) hv
                | none =>
                  rw [hm] at hv
                  simp only at hv
                  repeat ((with_reducible first | apply opt_in | apply wI | apply wT | apply wP | apply wS | apply wB); exact rfl)
                  refine octal_spec L ?_
                  unfold octA
                  cases ho : octF (d :: r1) with
                  | some o =>
                    rw [ho] at hv
                    simp only at hv
                    have ho2 := octF_lt ho
                    have ho4 := octF_len ho
                    simp only [List.length_cons] at ho4
                    have ho3 : ((UInt8.ofNat o).toNat : Int) = (o : Int) := by rw [UInt8.toNat_ofNat_of_lt' ho2]
                    repeat ((with_reducible first | apply opt_in | apply wI | apply wT | apply wP | apply wS | apply wB); exact rfl)
                    rw [condB_not, condB_true']
                    refine opt2_in (v := .pv (.sl [.int .u8 (o : Int)])) rfl ?_
                    refine opt2_in (append_bytes (id := 0) (acc := acc) (s := [UInt8.ofNat o]) (by
                      show some [PV.int .u8 (o : Int)] = some (bytesPV [UInt8.ofNat o])
                      simp only [bytesPV, List.map_cons, List.map_nil]
                      rw [ho3]) rfl (by simp only [List.length_singleton]; omega)) ?_
                    have w4 : IntKind.wrap .i64 ((i : Int) + 4) = ((i + 4 : Nat) : Int) := by rw [wrap_i64 (by omega) (by omega)]; omega
                    rw [w4]
                    have hdd : text.drop (i + 4) = (d :: r1).drop 3 := by rw [← h2, List.drop_drop]
                    have hdl : ((d :: r1).drop 3).length = r1.length - 2 := by rw [List.length_drop, List.length_cons]; omega
                    exact more _ ((d :: r1).drop 3) (i + 4) [] hdd (by omega) (by omega) (by omega) hv
                  | none =>
                    rw [ho] at hv
                    repeat ((with_reducible first | apply opt_in | apply wI | apply wT | apply wP | apply wS | apply wB); exact rfl)
                    refine fin_keep (Nat.zero_le _) ?_
                    rw [hv]; rfl
          · have hc3 : c ≠ 92 := fun e => g3 (by rw [e]; rfl)
            rw [if_pos hc3] at hv
            refine opt2_in (v := .pv (.sl [.int .u8 c.toNat])) rfl ?_
            refine opt2_in (append_bytes (id := 0) (acc := acc) (s := [c]) rfl rfl (by simp only [List.length_singleton]; omega)) ?_
            rw [wi]
            exact more c r (i + 1) [] h2 (by omega) (by omega) (by omega) hv
theorem Unquote_spec (L : Laid w0.w) {s : Ln} (hs : s.length ≤ 8388608) (hR : R (unqA (unqF s)) σ) : SCalls (cx w0) quote_Unquote.id [.pv (.str s)] σ R := by
  refine SCalls.alone L rfl (fun w1 L1 => ?_) (unqA_under _) hR
  refine quote_Unquote.calls ?_
  rw [quote_Unquote.b0_eq]
  refine HasPrefix_spec (isB_in ?_)
  rw [condB_not]
  refine condB_split (fun g => ?_) (fun g => ?_)
  · have h1 : [34] <+: s := List.isPrefixOf_iff_prefix.1 g
    obtain ⟨r, rfl⟩ := h1
    refine quote_Unquote.n24_weak (text' := [34] ++ r) (b' := .arr 0 0 0 0) (i' := 1) (τ := [.arr 1 [] false]) (EWeak.nil (t := 6) (es := 1) rfl rfl) ?_
    simp only [List.length_append, List.length_singleton] at hs
    exact uq_loop L1 ([34] ++ r) (by simp only [List.length_append, List.length_singleton]; omega) _ (r.length + 1) r 1 [] rfl (by simp) (by omega) (by simp only [List.length_nil]; omega) rfl
  · have fin : ∀ n : Int, n = (nameEnd s : Int) → quote_Unquote.n14 (quote_Unquote.X w1 0) w1 0 (fun r' _ => r' = unqA (unqF s)) [] s n := by
      rintro n rfl
      have hle := nameEnd_le s
      refine quote_Unquote.n14_in ?_
      rw [quote_Unquote.b14_eq]
      refine opt_in (slice_take hle) (isS_in (opt_in (slice_drop hle) (isS_in ⟨opt_in (slice_drop hle) rfl, fin_keep (Nat.zero_le _) ?_⟩)))
      have : unqF s = some (s.take (nameEnd s), s.drop (nameEnd s)) := by
        unfold unqF
        split
        · rename_i r
          have : Lib.hasPrefix (34 :: r) [34] = true := by simp [Lib.hasPrefix, List.isPrefixOf]
          rw [this] at g; cases g
        · rfl
      rw [this]; rfl
    have ha := nameEnd_any s
    refine IndexAny_spec (by decide) (by omega) (by decide) (isI_in ?_)
    rw [condB_decide]
    refine ite_split (fun g2 => fin _ ?_) (fun g2 => fin _ ?_)
    · rw [if_pos g2] at ha; exact ha
    · rw [if_neg g2] at ha; exact ha
end
end Go.Sv
