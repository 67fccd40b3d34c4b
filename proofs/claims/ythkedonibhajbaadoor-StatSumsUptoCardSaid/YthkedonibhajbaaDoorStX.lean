/- The law StatSums, over stores: counts put together by name, the numbers a line each. -/
import Derived.Test.YthkedonibhajbaaDoorStW
import Derived.Test.YthkedonibhajbaaDoorStL
import Derived.Test.YthkedonibhajbaaDoorStH
import Derived.Test.YthkedonibhajbaaDoorStM
import Derived.Test.YthkedonibhajbaaDoorStA
import Derived.Test.YthkedonibhajbaaDoorSvBk
set_option linter.unusedVariables false
set_option linter.unusedSimpArgs false
set_option maxRecDepth 100000
namespace Go.Sv
open Go Go.RowKit Go.Proofs
def numF (c : Cnt) : List UInt8 := ((((Lib.itoa c.a ++ [9]) ++ Lib.itoa c.d) ++ [9]) ++ quoteF c.nm) ++ [10]
def goodC (c : Cnt) : Prop := 0 ≤ c.a ∧ c.a ≤ 2147483647 ∧ 0 ≤ c.d ∧ c.d ≤ 2147483647 ∧ c.nm.length ≤ 1048576
theorem good_lens {c : Cnt} (h : goodC c) : (Lib.itoa c.a).length ≤ 21 ∧ (Lib.itoa c.d).length ≤ 21 ∧ (quoteF c.nm).length ≤ 4194306 ∧ (numF c).length ≤ 4194360 := by
  obtain ⟨h1, h2, h3, h4, h5⟩ := h
  have e1 := Lib.itoa_length_le c.a (by omega) (by omega)
  have e2 := Lib.itoa_length_le c.d (by omega) (by omega)
  have e3 := quoteF_len c.nm
  refine ⟨by omega, by omega, by omega, ?_⟩
  unfold numF
  simp only [List.length_append, List.length_cons, List.length_nil]
  omega
theorem good_of {l : List Cnt} {p : Int × Int} (h : sumsR l = some p) (hn : ∀ c ∈ l, c.nm.length ≤ 1048576) : ∀ c ∈ l, goodC c := by
  unfold sumsR at h
  split at h
  · cases h
  · obtain ⟨g1, g2, g3⟩ := sumR_some l 0 0 _ rfl rfl h
    obtain ⟨-, -, k3⟩ := sA_pos l g1
    intro c hc
    have k4 := k3 c hc
    obtain ⟨p1, p2⟩ := g1 c hc
    exact ⟨p1, by omega, p2, by omega, hn c hc⟩
def outNP (l : List Cnt) : AV := match sumsR l with
  | some _ => .tup [.pv (.str (l.flatMap numF)), .pv (.raw .nilIface)]
  | none => .tup [.pv (.str []), .pv (.iface 59 (.int .i64 1))]
def outNR (l : List Cnt) : AV := match sumsR l with
  | some _ => .tup [.pv (.str (l.flatMap numF)), .pv (.int .i64 0)]
  | none => .tup [.pv (.str []), .pv (.int .i64 1)]
section
variable {w0 : Base} {σ : Store} {R : AV → Store → Prop}
theorem num_loop (L : Laid w0.w) (l : List Cnt) (hx : l.length ≤ 65536) : ∀ (r : List Cnt) (k : Nat) (acc : List UInt8), (l.map cntP).drop k = r.map cntP → (∀ c ∈ r, goodC c) → acc.length + r.length * 4194360 ≤ 1099511627776 →
    stat_Numbers.n18 (stat_Numbers.X w0 0) w0 0 (fun r' _ => r' = .tup [.pv (.str (acc ++ r.flatMap numF)), .pv (.raw .nilIface)]) [.bld tB 5 acc] (.ptr 0 0) (cntsA l) ((l.map cntP).length) k
  | [], k, acc, h, hf, ha => by
    have hk := drop_end h
    refine stat_Numbers.n18_in ?_
    rw [stat_Numbers.b19_eq, condB_decide, if_neg (by omega)]
    refine stat_Numbers.n31_in ?_
    rw [stat_Numbers.b31_eq]
    refine String_spec rfl (isS_in (fin_keep (Nat.zero_le _) ?_))
    simp
  | c :: r, k, acc, h, hf, ha => by
    obtain ⟨h1, h2, hk⟩ := drop_facts h
    have hc := hf c (by simp)
    obtain ⟨l1, l2, l3, l4⟩ := good_lens hc
    obtain ⟨f1, f2, f3, f4, f5⟩ := hc
    have hl : (l.map cntP).length = l.length := List.length_map _
    simp only [List.length_cons] at ha
    refine stat_Numbers.n18_in ?_
    rw [stat_Numbers.b19_eq, condB_decide, if_pos (by omega)]
    refine opt_in (idx_ro tab48 h1 rfl) ?_
    repeat (first | ((with_reducible show opt _ _); refine opt_in rfl ?_) | ((with_reducible show isI _ _ _); refine isI_in ?_) | ((with_reducible show isTup _ _); refine isTup_in ?_) | ((with_reducible show isS _ _); refine isS_in ?_) | ((with_reducible show isB _ _); refine isB_in ?_))
    refine Itoa_spec L (by omega) (by omega) (isS_in ⟨opt_in rfl rfl, opt_in rfl rfl, ?_, Itoa_spec L (by omega) (by omega) (isS_in ⟨opt_in rfl rfl, ?_, ?_, Quote_spec L (by omega) (isS_in ⟨?_, ?_, ?_⟩)⟩)⟩)
    · simp only [List.length_append, List.length_cons, List.length_nil]; omega
    · simp only [List.length_append, List.length_cons, List.length_nil]; omega
    · simp only [List.length_append, List.length_cons, List.length_nil]; omega
    · simp only [List.length_append, List.length_cons, List.length_nil]; omega
    · simp only [List.length_append, List.length_cons, List.length_nil]; omega
    refine WriteString_spec (t := numF c) rfl (by omega) ?_
    rw [wrap_next hk (by omega)]
    refine stat_Numbers.n18_weak (EWeak.drop (τ := [.bld tB 5 (acc ++ numF c)]) (L := [.cells 48 [.pv (.str c.nm), .pv (.int .i64 c.a), .pv (.int .i64 c.d)]]) glob0 (Nat.zero_le _) rfl rfl) ?_
    have := num_loop L l hx r (k + 1) (acc ++ numF c) h2 (fun c hc => hf c (List.mem_cons_of_mem _ hc)) (by simp only [List.length_append]; omega)
    simpa [List.flatMap_cons, List.append_assoc] using this
theorem Numbers_spec (L : Laid w0.w) {l : List Cnt} (hn : ∀ c ∈ l, c.nm.length ≤ 1048576) (hR : R (outNP l) σ) : SCalls (cx w0) stat_Numbers.id [cntsA l] σ R := by
  refine SCalls.alone L rfl (fun w1 L1 => ?_) (by unfold outNP; split <;> rfl) hR
  clear hR
  refine stat_Numbers.calls ?_
  rw [stat_Numbers.b0_eq]
  refine sums_spec L1 ?_
  unfold outNP
  rcases sums_same l with ⟨⟨a, d⟩, h1, h2, q1, q2, q3, q4, hl⟩ | ⟨h1, h2⟩
  · simp only at q1 q2 q3 q4
    rw [h1, h2]
    have hb : (inN a && inN d) = true := by rw [Bool.and_eq_true]; exact ⟨inN_iff.2 ⟨q1, q2⟩, inN_iff.2 ⟨q3, q4⟩⟩
    unfold outP
    repeat (first | ((with_reducible show opt _ _); refine opt_in rfl ?_) | ((with_reducible show isI _ _ _); refine isI_in ?_) | ((with_reducible show isTup _ _); refine isTup_in ?_) | ((with_reducible show isS _ _); refine isS_in ?_) | ((with_reducible show isB _ _); refine isB_in ?_))
    rw [hb]
    refine condB_split (fun h => absurd h (by decide)) (fun _ => ?_)
    repeat (first | ((with_reducible show opt _ _); refine opt_in rfl ?_) | ((with_reducible show isI _ _ _); refine isI_in ?_) | ((with_reducible show isTup _ _); refine isTup_in ?_) | ((with_reducible show isS _ _); refine isS_in ?_) | ((with_reducible show isB _ _); refine isB_in ?_))
    exact num_loop L1 l hl l 0 [] rfl (good_of h1 hn) (by simp only [List.length_nil]; omega)
  · rw [h1]
    cases h3 : sumsP l with
    | none =>
      unfold outP
      repeat (first | ((with_reducible show opt _ _); refine opt_in rfl ?_) | ((with_reducible show isI _ _ _); refine isI_in ?_) | ((with_reducible show isTup _ _); refine isTup_in ?_) | ((with_reducible show isS _ _); refine isS_in ?_) | ((with_reducible show isB _ _); refine isB_in ?_))
      refine condB_split (fun _ => ?_) (fun h => absurd h (by decide))
      repeat (first | ((with_reducible show opt _ _); refine opt_in rfl ?_) | ((with_reducible show isI _ _ _); refine isI_in ?_) | ((with_reducible show isTup _ _); refine isTup_in ?_) | ((with_reducible show isS _ _); refine isS_in ?_) | ((with_reducible show isB _ _); refine isB_in ?_))
      exact fin_keep (Nat.zero_le _) rfl
    | some p =>
      obtain ⟨a, d⟩ := p
      have hb := h2 _ h3
      unfold outP
      repeat (first | ((with_reducible show opt _ _); refine opt_in rfl ?_) | ((with_reducible show isI _ _ _); refine isI_in ?_) | ((with_reducible show isTup _ _); refine isTup_in ?_) | ((with_reducible show isS _ _); refine isS_in ?_) | ((with_reducible show isB _ _); refine isB_in ?_))
      simp only at hb
      rw [hb]
      refine condB_split (fun _ => ?_) (fun h => absurd h (by decide))
      repeat (first | ((with_reducible show opt _ _); refine opt_in rfl ?_) | ((with_reducible show isI _ _ _); refine isI_in ?_) | ((with_reducible show isTup _ _); refine isTup_in ?_) | ((with_reducible show isS _ _); refine isS_in ?_) | ((with_reducible show isB _ _); refine isB_in ?_))
      exact fin_keep (Nat.zero_le _) rfl
theorem rnum_loop (L : Laid w0.w) (l : List Cnt) (hx : l.length ≤ 65536) : ∀ (r : List Cnt) (k : Nat) (acc : List UInt8), (l.map cntP).drop k = r.map cntP → (∀ c ∈ r, goodC c) → acc.length + r.length * 4194360 ≤ 1099511627776 →
    selvageref16_Numbers.n18 (selvageref16_Numbers.X w0 0) w0 0 (fun r' _ => r' = .tup [.pv (.str (acc ++ r.flatMap numF)), .pv (.int .i64 0)]) (bS acc).1 (cntsA l) (bS acc).2 k
  | [], k, acc, h, hf, ha => by
    have hk := drop_end h
    refine selvageref16_Numbers.n18_in ?_
    rw [selvageref16_Numbers.b19_eq]
    repeat (first | ((with_reducible show opt _ _); refine opt_in rfl ?_) | ((with_reducible show isI _ _ _); refine isI_in ?_) | ((with_reducible show isTup _ _); refine isTup_in ?_) | ((with_reducible show isS _ _); refine isS_in ?_) | ((with_reducible show isB _ _); refine isB_in ?_))
    rw [condB_decide, if_neg (by omega)]
    refine selvageref16_Numbers.n29_in ?_
    rw [selvageref16_Numbers.b29_eq]
    refine opt2_in bS_conv (isS_in (fin_keep (Nat.zero_le _) ?_))
    simp
  | c :: r, k, acc, h, hf, ha => by
    obtain ⟨h1, h2, hk⟩ := drop_facts h
    have hc := hf c (by simp)
    obtain ⟨l1, l2, l3, l4⟩ := good_lens hc
    obtain ⟨f1, f2, f3, f4, f5⟩ := hc
    have hl : (l.map cntP).length = l.length := List.length_map _
    simp only [List.length_cons] at ha
    have idx : ∀ σ, aIndexAddr σ tabS ti28.td (cntsA l) (k : Int) = some (.ro (cntP c) 0) := fun σ => idx_ro tab47 h1 rfl
    refine selvageref16_Numbers.n18_in ?_
    rw [selvageref16_Numbers.b19_eq]
    repeat (first | ((with_reducible show opt _ _); refine opt_in rfl ?_) | ((with_reducible show isI _ _ _); refine isI_in ?_) | ((with_reducible show isTup _ _); refine isTup_in ?_) | ((with_reducible show isS _ _); refine isS_in ?_) | ((with_reducible show isB _ _); refine isB_in ?_))
    rw [condB_decide, if_pos (by omega)]
    refine opt_in (idx _) ?_
    repeat (first | ((with_reducible show opt _ _); refine opt_in rfl ?_) | ((with_reducible show isI _ _ _); refine isI_in ?_) | ((with_reducible show isTup _ _); refine isTup_in ?_) | ((with_reducible show isS _ _); refine isS_in ?_) | ((with_reducible show isB _ _); refine isB_in ?_))
    refine opt_in (idx _) ?_
    repeat (first | ((with_reducible show opt _ _); refine opt_in rfl ?_) | ((with_reducible show isI _ _ _); refine isI_in ?_) | ((with_reducible show isTup _ _); refine isTup_in ?_) | ((with_reducible show isS _ _); refine isS_in ?_) | ((with_reducible show isB _ _); refine isB_in ?_))
    refine opt_in (idx _) ?_
    repeat (first | ((with_reducible show opt _ _); refine opt_in rfl ?_) | ((with_reducible show isI _ _ _); refine isI_in ?_) | ((with_reducible show isTup _ _); refine isTup_in ?_) | ((with_reducible show isS _ _); refine isS_in ?_) | ((with_reducible show isB _ _); refine isB_in ?_))
    refine Digits_spec (by omega) (by omega) (isS_in ⟨opt_in (idx _) rfl, opt_in rfl rfl, opt_in (idx _) rfl, opt_in rfl rfl, ?_, Digits_spec (by omega) (by omega) (isS_in ⟨opt_in (idx _) rfl, opt_in rfl rfl, ?_, ?_, rQuote_spec L (by omega) (isS_in ⟨?_, ?_, ?_⟩)⟩)⟩)
    · simp only [List.length_append, List.length_cons, List.length_nil]; omega
    · simp only [List.length_append, List.length_cons, List.length_nil]; omega
    · simp only [List.length_append, List.length_cons, List.length_nil]; omega
    · simp only [List.length_append, List.length_cons, List.length_nil]; omega
    · simp only [List.length_append, List.length_cons, List.length_nil]; omega
    refine opt2_in (bS_append (t := numF c) rfl (by omega)) ?_
    rw [wrap_next hk (by omega)]
    have := rnum_loop L l hx r (k + 1) (acc ++ numF c) h2 (fun c hc => hf c (List.mem_cons_of_mem _ hc)) (by simp only [List.length_append]; omega)
    simpa [List.flatMap_cons, List.append_assoc] using this
theorem rNumbers_spec (L : Laid w0.w) {l : List Cnt} (hn : ∀ c ∈ l, c.nm.length ≤ 1048576) (hR : R (outNR l) σ) : SCalls (cx w0) selvageref16_Numbers.id [cntsA l] σ R := by
  refine SCalls.alone L rfl (fun w1 L1 => ?_) (by unfold outNR; split <;> rfl) hR
  clear hR
  refine selvageref16_Numbers.calls ?_
  rw [selvageref16_Numbers.b0_eq]
  refine rsums_spec L1 ?_
  unfold outNR
  rcases sums_same l with ⟨⟨a, d⟩, h1, h2, q1, q2, q3, q4, hl⟩ | ⟨h1, h2⟩
  · rw [h1]
    unfold outR
    repeat (first | ((with_reducible show opt _ _); refine opt_in rfl ?_) | ((with_reducible show isI _ _ _); refine isI_in ?_) | ((with_reducible show isTup _ _); refine isTup_in ?_) | ((with_reducible show isS _ _); refine isS_in ?_) | ((with_reducible show isB _ _); refine isB_in ?_))
    refine condB_split (fun h => absurd h (by decide)) (fun _ => ?_)
    exact rnum_loop L1 l hl l 0 [] rfl (good_of h1 hn) (by simp only [List.length_nil]; omega)
  · rw [h1]
    unfold outR
    repeat (first | ((with_reducible show opt _ _); refine opt_in rfl ?_) | ((with_reducible show isI _ _ _); refine isI_in ?_) | ((with_reducible show isTup _ _); refine isTup_in ?_) | ((with_reducible show isS _ _); refine isS_in ?_) | ((with_reducible show isB _ _); refine isB_in ?_))
    refine condB_split (fun _ => ?_) (fun h => absurd h (by decide))
    exact fin_keep (Nat.zero_le _) rfl
theorem neq_same {t : TypeId} {ti : TI} {cs : List PV} (ht : tabS t = some ti) (e : aEqT tabS ti false (.pv (.agg cs)) (.pv (.agg cs)) = some true) {k : AV → Prop} (hk : k (.pv (.bool false))) : aBinK tabS t false .neq (.pv (.agg cs)) (.pv (.agg cs)) k := by
  show opt (tabS t) fun ti => opt (aEqT tabS ti false (.pv (.agg cs)) (.pv (.agg cs))) fun b => k (.pv (.bool !b))
  exact opt_in ht (opt_in e hk)
theorem eq_cnt (c : Cnt) : eqCells tabS 0 [(0, 9), (1, 3), (2, 3)] [.str c.nm, .int .i64 c.a, .int .i64 c.d] [.str c.nm, .int .i64 c.a, .int .i64 c.d] = some true := by
  have h : eqCells tabS 0 [(0, 9), (1, 3), (2, 3)] [.str c.nm, .int .i64 c.a, .int .i64 c.d] [.str c.nm, .int .i64 c.a, .int .i64 c.d] = some ((c.nm == c.nm) && ((c.a == c.a) && ((c.d == c.d) && true))) := rfl
  rw [h]; simp
theorem sums_last (L : Laid w0.w) (S : List Cnt) (hS : S.length ≤ 65536) : ∀ (r : List Cnt) (k : Nat), (S.map cntP).drop k = r.map cntP → selvagelaw16_StatSums.n53 (selvagelaw16_StatSums.X w0 0) w0 0 (fun r _ => r = .pv (.bool true)) σ (cntsA S) (cntsA S) k
  | [], k, h => by
    have hk := drop_end h
    refine selvagelaw16_StatSums.n53_in ?_
    rw [selvagelaw16_StatSums.b54_eq]
    repeat (first | ((with_reducible show opt _ _); refine opt_in rfl ?_) | ((with_reducible show isI _ _ _); refine isI_in ?_) | ((with_reducible show isTup _ _); refine isTup_in ?_) | ((with_reducible show isS _ _); refine isS_in ?_) | ((with_reducible show isB _ _); refine isB_in ?_))
    rw [condB_decide, if_neg (by omega)]
    refine selvagelaw16_StatSums.n70_in ?_
    rw [selvagelaw16_StatSums.b70_eq]
    exact works_spec L (isB_in (fin_keep (Nat.zero_le _) rfl))
  | c :: r, k, h => by
    obtain ⟨h1, h2, hk⟩ := drop_facts h
    have hl : (S.map cntP).length = S.length := List.length_map _
    refine selvagelaw16_StatSums.n53_in ?_
    rw [selvagelaw16_StatSums.b54_eq]
    repeat (first | ((with_reducible show opt _ _); refine opt_in rfl ?_) | ((with_reducible show isI _ _ _); refine isI_in ?_) | ((with_reducible show isTup _ _); refine isTup_in ?_) | ((with_reducible show isS _ _); refine isS_in ?_) | ((with_reducible show isB _ _); refine isB_in ?_))
    rw [condB_decide, if_pos (by omega)]
    refine opt_in (idx_ro tab48 h1 rfl) ?_
    repeat (first | ((with_reducible show opt _ _); refine opt_in rfl ?_) | ((with_reducible show isI _ _ _); refine isI_in ?_) | ((with_reducible show isTup _ _); refine isTup_in ?_) | ((with_reducible show isS _ _); refine isS_in ?_) | ((with_reducible show isB _ _); refine isB_in ?_))
    refine opt_in (idx_ro tab48 h1 rfl) ?_
    repeat (first | ((with_reducible show opt _ _); refine opt_in rfl ?_) | ((with_reducible show isI _ _ _); refine isI_in ?_) | ((with_reducible show isTup _ _); refine isTup_in ?_) | ((with_reducible show isS _ _); refine isS_in ?_) | ((with_reducible show isB _ _); refine isB_in ?_))
    refine neq_same (t := 48) (ti := ti48) (cs := [.str c.nm, .int .i64 c.a, .int .i64 c.d]) rfl (eq_cnt c) (isB_in ?_)
    refine condB_split (fun h => by cases h) (fun _ => ?_)
    rw [wrap_next hk (by omega)]
    exact sums_last L S hS r (k + 1) h2
theorem sums_mid (L : Laid w0.w) (S : List Cnt) (e : AV) (hS : S.length ≤ 65536) (hO : outSP S = .tup [cntsA S, .pv (.raw .nilIface)]) (he : e = .pv (.raw .nilIface) ∨ e = .pv (.iface 59 (.int .i64 1))) : ∀ (r : List Cnt) (k : Nat), (S.map cntP).drop k = r.map cntP →
    selvagelaw16_StatSums.n22 (selvagelaw16_StatSums.X w0 0) w0 0 (fun r _ => r = .pv (.bool true)) σ (cntsA S) e (cntsA S) k
  | [], k, h => by
    have hk := drop_end h
    have l44 : ∀ σ t, t = false → selvagelaw16_StatSums.n44 (selvagelaw16_StatSums.X w0 0) w0 0 (fun r _ => r = .pv (.bool true)) σ (cntsA S) (cntsA S) t := by
      rintro σ t rfl
      refine selvagelaw16_StatSums.n44_in ?_
      rw [selvagelaw16_StatSums.b44_eq]
      exact condB_split (fun h => by cases h) (fun _ => sums_last L S hS S 0 rfl)
    refine selvagelaw16_StatSums.n22_in ?_
    rw [selvagelaw16_StatSums.b23_eq]
    repeat (first | ((with_reducible show opt _ _); refine opt_in rfl ?_) | ((with_reducible show isI _ _ _); refine isI_in ?_) | ((with_reducible show isTup _ _); refine isTup_in ?_) | ((with_reducible show isS _ _); refine isS_in ?_) | ((with_reducible show isB _ _); refine isB_in ?_))
    rw [condB_decide, if_neg (by omega)]
    refine selvagelaw16_StatSums.n39_in ?_
    rw [selvagelaw16_StatSums.b39_eq]
    refine Sum_spec L ?_
    rw [hO]
    repeat (first | ((with_reducible show opt _ _); refine opt_in rfl ?_) | ((with_reducible show isI _ _ _); refine isI_in ?_) | ((with_reducible show isTup _ _); refine isTup_in ?_) | ((with_reducible show isS _ _); refine isS_in ?_) | ((with_reducible show isB _ _); refine isB_in ?_))
    rw [eql_raw]
    rcases he with rfl | rfl
    · refine opt_in rfl (opt_in (v := true) rfl (isB_in ?_))
      refine condB_split (fun _ => ?_) (fun h => absurd h (by decide))
      rw [neq_raw]
      refine opt_in rfl (opt_in (v := true) rfl (isB_in ?_))
      refine condB_split (fun h => absurd h (by decide)) (fun _ => ?_)
      repeat (first | ((with_reducible show opt _ _); refine opt_in rfl ?_) | ((with_reducible show isI _ _ _); refine isI_in ?_) | ((with_reducible show isTup _ _); refine isTup_in ?_) | ((with_reducible show isS _ _); refine isS_in ?_) | ((with_reducible show isB _ _); refine isB_in ?_))
      refine l44 _ _ ?_
      simp
    · refine opt_in rfl (opt_in (v := false) rfl (isB_in ?_))
      refine condB_split (fun h => absurd h (by decide)) (fun _ => ?_)
      exact l44 _ _ rfl
  | c :: r, k, h => by
    obtain ⟨h1, h2, hk⟩ := drop_facts h
    have hl : (S.map cntP).length = S.length := List.length_map _
    refine selvagelaw16_StatSums.n22_in ?_
    rw [selvagelaw16_StatSums.b23_eq]
    repeat (first | ((with_reducible show opt _ _); refine opt_in rfl ?_) | ((with_reducible show isI _ _ _); refine isI_in ?_) | ((with_reducible show isTup _ _); refine isTup_in ?_) | ((with_reducible show isS _ _); refine isS_in ?_) | ((with_reducible show isB _ _); refine isB_in ?_))
    rw [condB_decide, if_pos (by omega)]
    refine opt_in (idx_ro tab48 h1 rfl) ?_
    repeat (first | ((with_reducible show opt _ _); refine opt_in rfl ?_) | ((with_reducible show isI _ _ _); refine isI_in ?_) | ((with_reducible show isTup _ _); refine isTup_in ?_) | ((with_reducible show isS _ _); refine isS_in ?_) | ((with_reducible show isB _ _); refine isB_in ?_))
    refine opt_in (idx_ro tab47 h1 rfl) ?_
    repeat (first | ((with_reducible show opt _ _); refine opt_in rfl ?_) | ((with_reducible show isI _ _ _); refine isI_in ?_) | ((with_reducible show isTup _ _); refine isTup_in ?_) | ((with_reducible show isS _ _); refine isS_in ?_) | ((with_reducible show isB _ _); refine isB_in ?_))
    refine neq_same (t := 47) (ti := ti47) (cs := [.str c.nm, .int .i64 c.a, .int .i64 c.d]) rfl (eq_cnt c) (isB_in ?_)
    refine condB_split (fun h => by cases h) (fun _ => ?_)
    rw [wrap_next hk (by omega)]
    exact sums_mid L S e hS hO he r (k + 1) h2
theorem sums_law (L : Laid w0.w) {l : List Cnt} (hl : l.length ≤ 1048576) (hn : ∀ c ∈ l, c.nm.length ≤ 1048576) : SCalls (cx w0) selvagelaw16_StatSums.id [cntsA l] [] fun r _ => r = .pv (.bool true) := by
  have e1 : ∃ S e m, outSP l = .tup [cntsA S, e] ∧ outSR l = .tup [cntsA S, .pv (.int .i64 m)] ∧ ((e = .pv (.raw .nilIface) ∧ m = 0) ∨ (e = .pv (.iface 59 (.int .i64 1)) ∧ m = 1)) ∧ S.length ≤ 65536 ∧ outSP S = .tup [cntsA S, .pv (.raw .nilIface)] := by
    cases h : sumsR l with
    | some p =>
      obtain ⟨⟨q, g1⟩, g2⟩ := sum_again h
      refine ⟨sumL l, _, _, by simp only [outSP, h], by simp only [outSR, h], .inl ⟨rfl, rfl⟩, ?_, by simp only [outSP, g1, g2]⟩
      unfold sumsR at g1
      split at g1
      · cases g1
      · omega
    | none => exact ⟨[], _, _, by simp only [outSP, h], by simp only [outSR, h], .inr ⟨rfl, rfl⟩, Nat.zero_le _, rfl⟩
  have e2 : ∃ s e m, outNP l = .tup [.pv (.str s), e] ∧ outNR l = .tup [.pv (.str s), .pv (.int .i64 m)] ∧ ((e = .pv (.raw .nilIface) ∧ m = 0) ∨ (e = .pv (.iface 59 (.int .i64 1)) ∧ m = 1)) := by
    cases h : sumsR l with
    | some p => exact ⟨l.flatMap numF, _, _, by simp only [outNP, h], by simp only [outNR, h], .inl ⟨rfl, rfl⟩⟩
    | none => exact ⟨[], _, _, by simp only [outNP, h], by simp only [outNR, h], .inr ⟨rfl, rfl⟩⟩
  obtain ⟨S, e, m, p1, p2, p3, p4, p5⟩ := e1
  obtain ⟨s, e', m', p1', p2', p3'⟩ := e2
  have num : ∀ (e : AV) (n : Int), ((e = .pv (.raw .nilIface) ∧ n = 0) ∨ (e = .pv (.iface 59 (.int .i64 1)) ∧ n = 1)) → ∀ {σ : Store} {R : AV → Store → Prop}, R (.pv (.int .i64 n)) σ → SCalls (cx w0) selvagelaw16_num.id [e] σ R := by
    rintro e n (⟨rfl, rfl⟩ | ⟨rfl, rfl⟩) σ R hR
    · exact num_nil L hR
    · exact num_err L hR
  refine selvagelaw16_StatSums.calls ?_
  rw [selvagelaw16_StatSums.b0_eq]
  refine mine_spec L (by omega) ?_
  refine Sum_spec L ?_
  rw [p1]
  repeat (first | ((with_reducible show opt _ _); refine opt_in rfl ?_) | ((with_reducible show isI _ _ _); refine isI_in ?_) | ((with_reducible show isTup _ _); refine isTup_in ?_) | ((with_reducible show isS _ _); refine isS_in ?_) | ((with_reducible show isB _ _); refine isB_in ?_))
  refine rSum_spec L ?_
  rw [p2]
  repeat (first | ((with_reducible show opt _ _); refine opt_in rfl ?_) | ((with_reducible show isI _ _ _); refine isI_in ?_) | ((with_reducible show isTup _ _); refine isTup_in ?_) | ((with_reducible show isS _ _); refine isS_in ?_) | ((with_reducible show isB _ _); refine isB_in ?_))
  refine mine_spec L (by omega) ?_
  refine Numbers_spec L hn ?_
  rw [p1']
  repeat (first | ((with_reducible show opt _ _); refine opt_in rfl ?_) | ((with_reducible show isI _ _ _); refine isI_in ?_) | ((with_reducible show isTup _ _); refine isTup_in ?_) | ((with_reducible show isS _ _); refine isS_in ?_) | ((with_reducible show isB _ _); refine isB_in ?_))
  refine rNumbers_spec L hn ?_
  rw [p2']
  repeat (first | ((with_reducible show opt _ _); refine opt_in rfl ?_) | ((with_reducible show isI _ _ _); refine isI_in ?_) | ((with_reducible show isTup _ _); refine isTup_in ?_) | ((with_reducible show isS _ _); refine isS_in ?_) | ((with_reducible show isB _ _); refine isB_in ?_))
  rw [condB_ibne, if_pos rfl]
  refine num e m p3 (isI_in ?_)
  rw [condB_ibne, if_pos rfl, condB_not, condB_sbeq, if_pos rfl]
  refine num e' m' p3' (isI_in ?_)
  refine selvagelaw16_StatSums.n13_in ?_
  rw [selvagelaw16_StatSums.b13_eq, condB_ibne, if_pos rfl]
  exact sums_mid L S e p4 p5 (p3.imp And.left And.left) S 0 rfl
end
open Go.Proofs.YthkedonibhajbaaDoor in
theorem cnt_list' : ∀ xs : List PV, (∀ x ∈ xs, hasT tabS 11 47 x) → ∃ l : List Cnt, xs = l.map cntP
  | [], _ => ⟨[], rfl⟩
  | x :: r, h => by
    obtain ⟨l, rfl⟩ := cnt_list' r fun y hy => h y (List.mem_cons_of_mem _ hy)
    obtain ⟨qs, rfl, g⟩ := hasT_struct tab47 ti47_td (h x (by simp))
    clear h
    obtain ⟨_, qs, rfl, h1, h⟩ := fields_cons g
    obtain ⟨_, qs, rfl, h2, h⟩ := fields_cons h
    obtain ⟨_, qs, rfl, h3, h⟩ := fields_cons h
    obtain rfl := fields_nil h
    obtain ⟨s, rfl, _⟩ := hasT_str tab9 ti9_td h1
    obtain ⟨a, rfl, _⟩ := hasT_int tab3 ti3_td h2
    obtain ⟨d, rfl, _⟩ := hasT_int tab3 ti3_td h3
    exact ⟨⟨s, a, d⟩ :: l, rfl⟩
theorem cnts_len' : ∀ l : List Cnt, l.length ≤ pvBs (l.map cntP)
  | [] => Nat.zero_le _
  | c :: r => by
    have := cnts_len' r
    simp only [List.map_cons, pvBs, pvB, List.length_cons]
    omega
open Go.Proofs.YthkedonibhajbaaDoor in
theorem StatSums_spec {w0 : Base} (L : Laid w0.w) {H : Type} {d0 : DataW H} {ds : List (DataW H)} (hT : hasT tabS 12 28 (toPV d0)) (hk : Rows.uptoSmall H (d0 :: ds) = true) : SCalls (cx w0) selvagelaw16_StatSums.id [.pv (toPV d0)] [] fun r _ => r = .pv (.bool true) := by
  obtain ⟨xs, e, hx⟩ := hasT_slice tab28 ti28_td hT
  obtain ⟨l, rfl⟩ := cnt_list' xs hx
  have hb : Rows.uptoBulkAll (d0 :: ds) ≤ 1048576 := of_decide_eq_true hk
  have h0 := pvB_le d0
  simp only [Rows.uptoBulkAll] at hb
  rw [e] at h0
  simp only [pvB] at h0
  have hl := cnts_len' l
  rw [e]
  refine sums_law L (by omega) fun c hc => ?_
  have := pvBs_mem _ _ (List.mem_map_of_mem (f := cntP) hc)
  simp only [pvB, pvBs] at this
  omega
end Go.Sv
