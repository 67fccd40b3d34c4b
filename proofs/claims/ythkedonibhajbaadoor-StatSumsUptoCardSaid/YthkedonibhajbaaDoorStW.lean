/- Counts put together by name: the sums stay, put together again nothing changes; stat.Sum and the document's Sum. -/
import Derived.Test.YthkedonibhajbaaDoorStV
set_option linter.unusedVariables false
set_option linter.unusedSimpArgs false
set_option maxRecDepth 100000
namespace Go.Sv
open Go Go.RowKit Go.Proofs
def sA : List Cnt → Int
  | [] => 0
  | c :: r => c.a + sA r
def sD : List Cnt → Int
  | [] => 0
  | c :: r => c.d + sD r
def posC (c : Cnt) : Prop := 0 ≤ c.a ∧ 0 ≤ c.d
theorem sA_pos : ∀ l : List Cnt, (∀ c ∈ l, posC c) → 0 ≤ sA l ∧ 0 ≤ sD l ∧ ∀ c ∈ l, c.a ≤ sA l ∧ c.d ≤ sD l
  | [], _ => ⟨Int.le_refl _, Int.le_refl _, fun c h => by simp at h⟩
  | c :: r, h => by
    obtain ⟨h1, h2, h3⟩ := sA_pos r fun c hc => h c (List.mem_cons_of_mem _ hc)
    obtain ⟨p1, p2⟩ := h c (by simp)
    simp only [sA, sD]
    refine ⟨by omega, by omega, fun x hx => ?_⟩
    rcases List.mem_cons.1 hx with rfl | hx
    · omega
    · have := h3 x hx; omega
theorem sumR_some : ∀ (r : List Cnt) (a d : Int) (p : Int × Int), inN a = true → inN d = true → sumR r a d = some p → (∀ c ∈ r, posC c) ∧ a + sA r ≤ 2147483647 ∧ d + sD r ≤ 2147483647
  | [], a, d, p, ha, hd, _ => by
    have ⟨_, h1⟩ := inN_iff.1 ha
    have ⟨_, h2⟩ := inN_iff.1 hd
    simp only [sA, sD]
    exact ⟨fun c h => by simp at h, by omega, by omega⟩
  | c :: r, a, d, p, ha, hd, h => by
    have ⟨a1, a2⟩ := inN_iff.1 ha
    have ⟨d1, d2⟩ := inN_iff.1 hd
    simp only [sumR] at h
    split at h
    · rename_i hc
      have ⟨c1, c2⟩ := inN_iff.1 hc.1
      have ⟨c3, c4⟩ := inN_iff.1 hc.2.1
      obtain ⟨h1, h2, h3⟩ := sumR_some r _ _ p hc.2.2.1 hc.2.2.2 h
      rw [wrap_i64 (n := a + c.a) (by omega) (by omega)] at h2
      rw [wrap_i64 (n := d + c.d) (by omega) (by omega)] at h3
      simp only [sA, sD]
      refine ⟨fun x hx => ?_, by omega, by omega⟩
      rcases List.mem_cons.1 hx with rfl | hx
      · exact ⟨c1, c3⟩
      · exact h1 x hx
    · cases h
theorem sumR_ok : ∀ (r : List Cnt) (a d : Int), (∀ c ∈ r, posC c) → 0 ≤ a → 0 ≤ d → a + sA r ≤ 2147483647 → d + sD r ≤ 2147483647 → ∃ p, sumR r a d = some p
  | [], a, d, _, _, _, _, _ => ⟨_, rfl⟩
  | c :: r, a, d, h, ha, hd, h1, h2 => by
    obtain ⟨q1, q2, _⟩ := sA_pos r fun c hc => h c (List.mem_cons_of_mem _ hc)
    obtain ⟨p1, p2⟩ := h c (by simp)
    simp only [sA, sD] at h1 h2
    simp only [sumR]
    rw [wrap_i64 (n := a + c.a) (by omega) (by omega), wrap_i64 (n := d + c.d) (by omega) (by omega)]
    rw [if_pos ⟨inN_iff.2 (by omega), inN_iff.2 (by omega), inN_iff.2 (by omega), inN_iff.2 (by omega)⟩]
    exact sumR_ok r _ _ (fun c hc => h c (List.mem_cons_of_mem _ hc)) (by omega) (by omega) (by omega) (by omega)
theorem set_sum : ∀ (out : List Cnt) (k : Nat) (o o' : Cnt), out[k]? = some o → sA (out.set k o') = sA out + (o'.a - o.a) ∧ sD (out.set k o') = sD out + (o'.d - o.d)
  | [], k, o, o', h => by simp at h
  | b :: r, 0, o, o', h => by
    simp at h; subst h
    simp only [List.set_cons_zero, sA, sD]
    omega
  | b :: r, k + 1, o, o', h => by
    obtain ⟨h1, h2⟩ := set_sum r k o o' (by simpa using h)
    simp only [List.set_cons_succ, sA, sD]
    omega
theorem app_sum : ∀ (out : List Cnt) (c : Cnt), sA (out ++ [c]) = sA out + c.a ∧ sD (out ++ [c]) = sD out + c.d
  | [], c => by simp [sA, sD]
  | b :: r, c => by
    obtain ⟨h1, h2⟩ := app_sum r c
    simp only [List.cons_append, sA, sD]
    omega
theorem addTo_sum {out : List Cnt} {c : Cnt} (ho : ∀ o ∈ out, posC o) (hc : posC c) (h1 : sA out + c.a ≤ 2147483647) (h2 : sD out + c.d ≤ 2147483647) : (∀ o ∈ addTo out c, posC o) ∧ sA (addTo out c) = sA out + c.a ∧ sD (addTo out c) = sD out + c.d := by
  unfold addTo
  cases hi : ixOf c.nm out with
  | none =>
    refine ⟨fun o h => ?_, (app_sum out c).1, (app_sum out c).2⟩
    rcases List.mem_append.1 h with h | h
    · exact ho o h
    · rw [List.mem_singleton] at h; rw [h]; exact hc
  | some k =>
    obtain ⟨o, g1, g2⟩ := ixOf_lt out c.nm k hi
    simp only [g1]
    have hm := List.mem_of_getElem? g1
    obtain ⟨p1, p2⟩ := ho o hm
    obtain ⟨q1, q2⟩ := hc
    obtain ⟨r1, r2⟩ := (sA_pos out ho).2.2 o hm
    have e1 : (plusC o c).a = o.a + c.a := wrap_i64 (by omega) (by omega)
    have e2 : (plusC o c).d = o.d + c.d := wrap_i64 (by omega) (by omega)
    obtain ⟨s1, s2⟩ := set_sum out k o (plusC o c) g1
    refine ⟨fun x hx => ?_, by omega, by omega⟩
    rcases List.mem_or_eq_of_mem_set hx with hx | rfl
    · exact ho x hx
    · exact ⟨by omega, by omega⟩
theorem fold_sum : ∀ (r out : List Cnt), (∀ o ∈ out, posC o) → (∀ c ∈ r, posC c) → sA out + sA r ≤ 2147483647 → sD out + sD r ≤ 2147483647 → (∀ o ∈ r.foldl addTo out, posC o) ∧ sA (r.foldl addTo out) = sA out + sA r ∧ sD (r.foldl addTo out) = sD out + sD r ∧ (r.foldl addTo out).length ≤ out.length + r.length
  | [], out, ho, _, _, _ => by simp [sA, sD]; exact ho
  | c :: r, out, ho, hr, h1, h2 => by
    obtain ⟨q1, q2, _⟩ := sA_pos r fun c hc => hr c (List.mem_cons_of_mem _ hc)
    simp only [sA, sD] at h1 h2 ⊢
    obtain ⟨g1, g2, g3⟩ := addTo_sum ho (hr c (by simp)) (by omega) (by omega)
    obtain ⟨i1, i2, i3, i4⟩ := fold_sum r (addTo out c) g1 (fun c hc => hr c (List.mem_cons_of_mem _ hc)) (by omega) (by omega)
    have := addTo_len out c
    rw [List.foldl_cons, List.length_cons]
    exact ⟨i1, by omega, by omega, by omega⟩
theorem ixOf_none : ∀ (out : List Cnt) (s : List UInt8), ixOf s out = none ↔ s ∉ out.map (·.nm)
  | [], s => by simp [ixOf]
  | c :: r, s => by
    have := ixOf_none r s
    unfold ixOf
    by_cases h : s = c.nm
    · simp [h]
    · simp [h, this]
theorem addTo_names {out : List Cnt} {c : Cnt} (h : (out.map (·.nm)).Nodup) : ((addTo out c).map (·.nm)).Nodup := by
  unfold addTo
  cases hi : ixOf c.nm out with
  | none =>
    have := (ixOf_none out c.nm).1 hi
    rw [List.map_append, List.nodup_append]
    refine ⟨h, by simp, fun a ha b hb => ?_⟩
    rw [List.map_cons, List.map_nil, List.mem_singleton] at hb
    rw [hb]
    intro e
    exact this (e ▸ ha)
  | some k =>
    obtain ⟨o, g1, g2⟩ := ixOf_lt out c.nm k hi
    simp only [g1, List.map_set]
    have : (out.map (·.nm)).set k (plusC o c).nm = out.map (·.nm) := by
      apply List.ext_getElem?
      intro i
      by_cases hk : k = i
      · subst hk
        have hlt : k < out.length := (List.getElem?_eq_some_iff.1 g1).1
        rw [List.getElem?_set_self (by simpa using hlt), List.getElem?_map, g1]; rfl
      · rw [List.getElem?_set_ne hk]
    rw [this]; exact h
theorem fold_names : ∀ (r out : List Cnt), (out.map (·.nm)).Nodup → ((r.foldl addTo out).map (·.nm)).Nodup
  | [], out, h => h
  | c :: r, out, h => fold_names r (addTo out c) (addTo_names h)
theorem fold_self : ∀ (r out : List Cnt), ((out ++ r).map (·.nm)).Nodup → r.foldl addTo out = out ++ r
  | [], out, _ => by simp
  | c :: r, out, h => by
    have e : addTo out c = out ++ [c] := by
      have : ixOf c.nm out = none := (ixOf_none out c.nm).2 fun hm => by
        rw [List.map_append, List.nodup_append] at h
        exact h.2.2 _ hm _ (by simp) rfl
      unfold addTo; rw [this]
    rw [List.foldl_cons, e, fold_self r (out ++ [c]) (by simpa using h)]
    simp
/-- Put together again nothing changes. -/
theorem sum_again {l : List Cnt} {p : Int × Int} (h : sumsR l = some p) : (∃ q, sumsR (sumL l) = some q) ∧ sumL (sumL l) = sumL l := by
  unfold sumsR at h
  split at h
  · cases h
  · rename_i hl
    obtain ⟨h1, h2, h3⟩ := sumR_some l 0 0 p rfl rfl h
    obtain ⟨g1, g2, g3, g4⟩ := fold_sum l [] (fun o h => by simp at h) h1 (by simpa [sA] using h2) (by simpa [sD] using h3)
    simp only [sA, sD, List.length_nil] at g2 g3 g4
    refine ⟨?_, ?_⟩
    · unfold sumsR
      rw [if_neg (by unfold sumL; omega)]
      exact sumR_ok _ 0 0 g1 (Int.le_refl _) (Int.le_refl _) (by unfold sumL; omega) (by unfold sumL; omega)
    · exact fold_self (sumL l) [] (fold_names l [] (by simp))
def findN (s : List UInt8) : List Cnt → Nat
  | [] => 0
  | c :: r => if s = c.nm then 0 else findN s r + 1
theorem findN_eq (s : List UInt8) : ∀ out : List Cnt, findN s out = match ixOf s out with
    | some k => k
    | none => out.length
  | [] => rfl
  | c :: r => by
    have := findN_eq s r
    unfold findN ixOf
    by_cases h : s = c.nm
    · rw [if_pos h, if_pos h]
    · rw [if_neg h, if_neg h, this]
      cases ixOf s r <;> rfl
def outSP (l : List Cnt) : AV := match sumsR l with
  | some _ => .tup [cntsA (sumL l), .pv (.raw .nilIface)]
  | none => .tup [cntsA [], .pv (.iface 59 (.int .i64 1))]
def outSR (l : List Cnt) : AV := match sumsR l with
  | some _ => .tup [cntsA (sumL l), .pv (.int .i64 0)]
  | none => .tup [cntsA [], .pv (.int .i64 1)]
section
variable {w0 : Base} {σ : Store} {R : AV → Store → Prop}
theorem Sum_spec (L : Laid w0.w) {l : List Cnt} (hR : R (outSP l) σ) : SCalls (cx w0) stat_Sum.id [cntsA l] σ R := by
  refine SCalls.alone L rfl (fun w1 L1 => ?_) (by unfold outSP; split <;> rfl) hR
  clear hR
  refine stat_Sum.calls ?_
  rw [stat_Sum.b0_eq]
  refine sums_spec L1 ?_
  unfold outSP
  rcases sums_same l with ⟨⟨a, d⟩, h1, h2, q1, q2, q3, q4, hl⟩ | ⟨h1, h2⟩
  · simp only at q1 q2 q3 q4
    rw [h1, h2]
    have hb : (inN a && inN d) = true := by rw [Bool.and_eq_true]; exact ⟨inN_iff.2 ⟨q1, q2⟩, inN_iff.2 ⟨q3, q4⟩⟩
    unfold outP
    repeat (first | ((with_reducible show opt _ _); refine opt_in rfl ?_) | ((with_reducible show isI _ _ _); refine isI_in ?_) | ((with_reducible show isTup _ _); refine isTup_in ?_) | ((with_reducible show isS _ _); refine isS_in ?_) | ((with_reducible show isB _ _); refine isB_in ?_))
    rw [hb]
    refine condB_split (fun h => absurd h (by decide)) (fun _ => ?_)
    repeat (first | ((with_reducible show opt _ _); refine opt_in rfl ?_) | ((with_reducible show isI _ _ _); refine isI_in ?_) | ((with_reducible show isTup _ _); refine isTup_in ?_) | ((with_reducible show isS _ _); refine isS_in ?_) | ((with_reducible show isB _ _); refine isB_in ?_))
    refine stat_Sum.n20_weak (out' := sumA []) (at_' := .mref 0) (t23' := cntsA l) (t24' := (l.map cntP).length) (t25' := 0) (τ := sumS []) (EWeak.nil (t := 7) (es := 3) rfl rfl) ?_
    exact sum_loop L1 l hl l 0 [] rfl (by simpa using hl)
  · rw [h1]
    have bad : ∀ a d (b : Bool), b = false → isTup (.tup [.pv (.int .i64 a), .pv (.int .i64 d), .pv (.bool b)]) fun r => isB (.pv (.bool b)) fun t => condB (!t) (opt (aMakeInterface 59 (.pv (.int .i64 1))) fun t21 => FinK (cx w1) 0 (.tup [.nilsl, t21]) [] fun r' _ => r' = .tup [cntsA [], .pv (.iface 59 (.int .i64 1))]) True := by
      rintro a d b rfl
      refine isTup_in (isB_in (condB_split (fun _ => ?_) (fun h => absurd h (by decide))))
      refine opt_in rfl ?_
      exact fin_seal (σ := []) (L := []) glob0 rfl rfl rfl
    cases h3 : sumsP l with
    | none =>
      unfold outP
      repeat (first | ((with_reducible show opt _ _); refine opt_in rfl ?_) | ((with_reducible show isI _ _ _); refine isI_in ?_) | ((with_reducible show isTup _ _); refine isTup_in ?_) | ((with_reducible show isS _ _); refine isS_in ?_) | ((with_reducible show isB _ _); refine isB_in ?_))
      refine condB_split (fun _ => ?_) (fun h => absurd h (by decide))
      repeat (first | ((with_reducible show opt _ _); refine opt_in rfl ?_) | ((with_reducible show isI _ _ _); refine isI_in ?_) | ((with_reducible show isTup _ _); refine isTup_in ?_) | ((with_reducible show isS _ _); refine isS_in ?_) | ((with_reducible show isB _ _); refine isB_in ?_))
      exact fin_seal (σ := []) (L := []) glob0 rfl rfl rfl
    | some p =>
      obtain ⟨a, d⟩ := p
      have hb := h2 _ h3
      unfold outP
      repeat (first | ((with_reducible show opt _ _); refine opt_in rfl ?_) | ((with_reducible show isI _ _ _); refine isI_in ?_) | ((with_reducible show isTup _ _); refine isTup_in ?_) | ((with_reducible show isS _ _); refine isS_in ?_) | ((with_reducible show isB _ _); refine isB_in ?_))
      simp only at hb
      rw [hb]
      refine condB_split (fun _ => ?_) (fun h => absurd h (by decide))
      repeat (first | ((with_reducible show opt _ _); refine opt_in rfl ?_) | ((with_reducible show isI _ _ _); refine isI_in ?_) | ((with_reducible show isTup _ _); refine isTup_in ?_) | ((with_reducible show isS _ _); refine isS_in ?_) | ((with_reducible show isB _ _); refine isB_in ?_))
      exact fin_seal (σ := []) (L := []) glob0 rfl rfl rfl
abbrev zeroC (c : Cnt) : Cnt := ⟨c.nm, 0, 0⟩
/-- The store of the document's Sum. -/
abbrev rsumS (out : List Cnt) : Store := [.arr 3 (out.map cntP) false]
abbrev rsumA (out : List Cnt) : AV := .arr 0 out.length 0 out.length
theorem rsum_find (l : List Cnt) (i : Nat) (c : Cnt) (hi : (l.map cntP)[i]? = some (cntP c)) (out : List Cnt) (ho : out.length ≤ 65536) {R : AV → Store → Prop} (K : Nat) (hR : selvageref16_Sum.n40 (selvageref16_Sum.X w0 0) w0 0 R (rsumS out) (cntsA l) (rsumA out) i K) : ∀ (r : List Cnt) (k : Nat), out.drop k = r → K = k + findN c.nm r →
    selvageref16_Sum.n31 (selvageref16_Sum.X w0 0) w0 0 R (rsumS out) (cntsA l) (rsumA out) i k
  | [], k, h, hK => by
    have hk := drop_end h
    refine selvageref16_Sum.n31_in ?_
    rw [selvageref16_Sum.b32_eq]
    refine opt_in (v := .pv (.int .i64 out.length)) rfl (isI_in ?_)
    rw [condB_decide, if_neg (by omega)]
    refine selvageref16_Sum.n35_in ?_
    rw [selvageref16_Sum.b35_eq]
    refine condB_split (fun h => by cases h) (fun _ => ?_)
    have : K = k := hK
    subst this
    exact hR
  | o :: r, k, h, hK => by
    obtain ⟨h1, h2, hk⟩ := drop_facts h
    have hj : (out.map cntP)[k]? = some (cntP o) := by rw [List.getElem?_map, h1]; rfl
    refine selvageref16_Sum.n31_in ?_
    rw [selvageref16_Sum.b32_eq]
    refine opt_in (v := .pv (.int .i64 out.length)) rfl (isI_in ?_)
    rw [condB_decide, if_pos (by omega)]
    refine opt_in (idx_arr (xs := out.map cntP) tab47 rfl hk rfl (List.length_map _)) ?_
    refine opt_in (v := .eptr 0 out.length (0 + k) (0 + 0)) rfl ?_
    rw [Nat.zero_add k]
    refine opt_in (load_eptr (xs := out.map cntP) rfl (List.length_map _) hj rfl rfl) (isS_in ?_)
    refine opt_in (idx_ro tab47 hi rfl) ?_
    repeat (first | ((with_reducible show opt _ _); refine opt_in rfl ?_) | ((with_reducible show isI _ _ _); refine isI_in ?_) | ((with_reducible show isTup _ _); refine isTup_in ?_) | ((with_reducible show isS _ _); refine isS_in ?_) | ((with_reducible show isB _ _); refine isB_in ?_))
    refine selvageref16_Sum.n35_in ?_
    rw [selvageref16_Sum.b35_eq, condB_not, condB_sbeq]
    refine ite_split (fun g => ?_) (fun g => ?_)
    · have : K = k := by rw [hK, findN, if_pos g.symm, Nat.add_zero]
      subst this
      exact hR
    · rw [wrap_next (n := out.length) hk (by omega)]
      refine rsum_find l i c hi out ho K hR r (k + 1) h2 ?_
      rw [hK, findN, if_neg (fun e => g e.symm)]
      omega
theorem rsum_plus (l : List Cnt) (i : Nat) (c : Cnt) (hi : (l.map cntP)[i]? = some (cntP c)) (out : List Cnt) (j : Nat) (o : Cnt) (ho : out[j]? = some o) {R : AV → Store → Prop}
    (hR : selvageref16_Sum.n49 (selvageref16_Sum.X w0 0) w0 0 R (rsumS (out.set j (plusC o c))) (cntsA l) (rsumA (out.set j (plusC o c))) i) : selvageref16_Sum.n46 (selvageref16_Sum.X w0 0) w0 0 R (rsumS out) (cntsA l) (rsumA out) i j := by
  have hjl : j < out.length := (List.getElem?_eq_some_iff.1 ho).1
  have hj : (out.map cntP)[j]? = some (cntP o) := by rw [List.getElem?_map, ho]; rfl
  refine selvageref16_Sum.n46_in ?_
  rw [selvageref16_Sum.b46_eq]
  refine opt_in (idx_arr (xs := out.map cntP) tab47 rfl hjl rfl (List.length_map _)) ?_
  refine opt_in (v := .eptr 0 out.length (0 + j) (0 + 1)) rfl ?_
  rw [Nat.zero_add j]
  refine opt_in (load_eptr (xs := out.map cntP) rfl (List.length_map _) hj rfl rfl) (isI_in ?_)
  refine opt_in (idx_ro tab47 hi rfl) ?_
  repeat (first | ((with_reducible show opt _ _); refine opt_in rfl ?_) | ((with_reducible show isI _ _ _); refine isI_in ?_) | ((with_reducible show isTup _ _); refine isTup_in ?_) | ((with_reducible show isS _ _); refine isS_in ?_) | ((with_reducible show isB _ _); refine isB_in ?_))
  refine opt_in (idx_arr (xs := out.map cntP) tab47 rfl hjl rfl (List.length_map _)) ?_
  refine opt_in (v := .eptr 0 out.length (0 + j) (0 + 1)) rfl ?_
  rw [Nat.zero_add j]
  refine opt_in (store_eptr (xs := out.map cntP) rfl (List.length_map _) hj rfl rfl rfl (by simp)) ?_
  have hj' : ((out.map cntP).set j (.agg (splice [.str o.nm, .int .i64 o.a, .int .i64 o.d] (0 + 1) [.int .i64 (IntKind.wrap .i64 (o.a + c.a))])))[j]? = some (.agg [.str o.nm, .int .i64 (IntKind.wrap .i64 (o.a + c.a)), .int .i64 o.d]) := by
    rw [List.getElem?_set_self (by simpa using hjl)]; rfl
  refine opt_in (idx_arr (xs := (out.map cntP).set j _) tab47 rfl hjl rfl (by simp)) ?_
  refine opt_in (v := .eptr 0 out.length (0 + j) (0 + 2)) rfl ?_
  rw [Nat.zero_add j]
  refine opt_in (load_eptr (xs := (out.map cntP).set j _) rfl (by simp) hj' rfl rfl) (isI_in ?_)
  refine opt_in (idx_ro tab47 hi rfl) ?_
  repeat (first | ((with_reducible show opt _ _); refine opt_in rfl ?_) | ((with_reducible show isI _ _ _); refine isI_in ?_) | ((with_reducible show isTup _ _); refine isTup_in ?_) | ((with_reducible show isS _ _); refine isS_in ?_) | ((with_reducible show isB _ _); refine isB_in ?_))
  refine opt_in (idx_arr (xs := (out.map cntP).set j _) tab47 rfl hjl rfl (by simp)) ?_
  refine opt_in (v := .eptr 0 out.length (0 + j) (0 + 2)) rfl ?_
  rw [Nat.zero_add j]
  refine opt_in (store_eptr (xs := (out.map cntP).set j _) rfl (by simp) hj' rfl rfl rfl (by simp)) ?_
  rw [List.set_set, List.set_set]
  have em : (out.set j (plusC o c)).map cntP = (out.map cntP).set j (cntP (plusC o c)) := by rw [List.map_set]
  rw [show rsumA (out.set j (plusC o c)) = rsumA out by simp [rsumA], show rsumS (out.set j (plusC o c)) = [SObj.arr 3 ((out.map cntP).set j (cntP (plusC o c))) false] by simp only [rsumS, em]] at hR
  exact hR
theorem rsum_loop (L : Laid w0.w) (l : List Cnt) (hx : l.length ≤ 65536) : ∀ (r : List Cnt) (k : Nat) (out : List Cnt), (l.map cntP).drop k = r.map cntP → out.length + r.length ≤ 65536 → (∀ c ∈ r, 0 ≤ c.a ∧ c.a ≤ 2147483647 ∧ 0 ≤ c.d ∧ c.d ≤ 2147483647) →
    selvageref16_Sum.n18 (selvageref16_Sum.X w0 0) w0 0 (fun r' _ => r' = .tup [cntsA (r.foldl addTo out), .pv (.int .i64 0)]) (rsumS out) (cntsA l) (rsumA out) k
  | [], k, out, h, ho, _ => by
    have hk := drop_end h
    refine selvageref16_Sum.n18_in ?_
    rw [selvageref16_Sum.b19_eq]
    repeat (first | ((with_reducible show opt _ _); refine opt_in rfl ?_) | ((with_reducible show isI _ _ _); refine isI_in ?_) | ((with_reducible show isTup _ _); refine isTup_in ?_) | ((with_reducible show isS _ _); refine isS_in ?_) | ((with_reducible show isB _ _); refine isB_in ?_))
    rw [condB_decide, if_neg (by omega)]
    refine selvageref16_Sum.n50_in ?_
    rw [selvageref16_Sum.b50_eq]
    refine fin_seal (σ := []) (L := rsumS out) glob0 rfl (r' := .tup [cntsA out, .pv (.int .i64 0)]) ?_ rfl
    have e : sealV 0 ([] ++ rsumS out) (rsumA out) = some (cntsA out) := by
      show (if (out.map cntP).length = out.length ∧ 0 + out.length ≤ out.length then some (AV.pv (.sl (((out.map cntP).drop 0).take out.length))) else none) = _
      rw [if_pos ⟨List.length_map _, by omega⟩]
      simp [List.take_of_length_le]
    show (match sealV 0 ([] ++ rsumS out) (rsumA out), sealVs 0 ([] ++ rsumS out) [.pv (.int .i64 0)] with
      | some b, some s => some (b :: s)
      | _, _ => none).map AV.tup = _
    rw [e]
    rfl
  | c :: r, k, out, h, ho, hf => by
    obtain ⟨h1, h2, hk⟩ := drop_facts h
    have hl : (l.map cntP).length = l.length := List.length_map _
    simp only [List.length_cons] at ho
    have next : ∀ out', out' = addTo out c → selvageref16_Sum.n49 (selvageref16_Sum.X w0 0) w0 0 (fun r' _ => r' = .tup [cntsA ((c :: r).foldl addTo out), .pv (.int .i64 0)]) (rsumS out') (cntsA l) (rsumA out') k := by
      rintro out' rfl
      refine selvageref16_Sum.n49_in ?_
      rw [selvageref16_Sum.b49_eq, wrap_next hk (by omega)]
      exact rsum_loop L l hx r (k + 1) (addTo out c) h2 (by have := addTo_len out c; omega) (fun c hc => hf c (List.mem_cons_of_mem _ hc))
    refine selvageref16_Sum.n18_in ?_
    rw [selvageref16_Sum.b19_eq]
    repeat (first | ((with_reducible show opt _ _); refine opt_in rfl ?_) | ((with_reducible show isI _ _ _); refine isI_in ?_) | ((with_reducible show isTup _ _); refine isTup_in ?_) | ((with_reducible show isS _ _); refine isS_in ?_) | ((with_reducible show isB _ _); refine isB_in ?_))
    rw [condB_decide, if_pos (by omega)]
    refine rsum_find l k c h1 out (by omega) (findN c.nm out) ?_ out 0 rfl (Nat.zero_add _).symm
    rw [findN_eq]
    refine selvageref16_Sum.n40_in ?_
    rw [selvageref16_Sum.b40_eq]
    repeat (first | ((with_reducible show opt _ _); refine opt_in rfl ?_) | ((with_reducible show isI _ _ _); refine isI_in ?_) | ((with_reducible show isTup _ _); refine isTup_in ?_) | ((with_reducible show isS _ _); refine isS_in ?_) | ((with_reducible show isB _ _); refine isB_in ?_))
    rw [condB_ibeq]
    cases hi : ixOf c.nm out with
    | none =>
      rw [if_pos rfl]
      refine opt_in (idx_ro tab47 h1 rfl) ?_
      repeat (first | ((with_reducible show opt _ _); refine opt_in rfl ?_) | ((with_reducible show isI _ _ _); refine isI_in ?_) | ((with_reducible show isTup _ _); refine isTup_in ?_) | ((with_reducible show isS _ _); refine isS_in ?_) | ((with_reducible show isB _ _); refine isB_in ?_))
      refine opt2_in rfl ?_
      refine opt2_in (append_pv (xs := out.map cntP) (ys := [cntP (zeroC c)]) rfl rfl (by simp) rfl rfl ?_) ?_
      · rw [List.length_map]
        show (out.length + 1 ≤ _ ∧ (out.length + 1) * 32 ≤ _)
        omega
      obtain ⟨f1, f2, f3, f4⟩ := hf c (by simp)
      have e : addTo out c = (out ++ [(zeroC c)]).set out.length (plusC (zeroC c) c) := by
        have e1 : plusC (zeroC c) c = c := by
          unfold plusC zeroC
          simp only [Int.zero_add]
          rw [wrap_i64 (by omega) (by omega), wrap_i64 (by omega) (by omega)]
        unfold addTo; rw [hi, e1]
        simp
      have := rsum_plus (w0 := w0) l k c h1 (out ++ [(zeroC c)]) out.length (zeroC c) (by simp) (next _ e.symm)
      rw [show rsumA (out ++ [(zeroC c)]) = .arr 0 ((out.map cntP).length + [cntP (zeroC c)].length) 0 ((out.map cntP).length + [cntP (zeroC c)].length) by simp [rsumA], show rsumS (out ++ [(zeroC c)]) = [SObj.arr 3 (out.map cntP ++ [cntP (zeroC c)]) false] by simp only [rsumS, List.map_append, List.map_cons, List.map_nil]] at this
      exact this
    | some j =>
      obtain ⟨o, ho1, ho2⟩ := ixOf_lt out c.nm j hi
      have hjl : j < out.length := (List.getElem?_eq_some_iff.1 ho1).1
      have hne : ¬ ((j : Int) = (out.length : Int)) := by omega
      rw [if_neg hne]
      have e : addTo out c = out.set j (plusC o c) := by unfold addTo; rw [hi]; simp only [ho1]
      exact rsum_plus l k c h1 out j o ho1 (next _ e.symm)
theorem rSum_spec (L : Laid w0.w) {l : List Cnt} (hR : R (outSR l) σ) : SCalls (cx w0) selvageref16_Sum.id [cntsA l] σ R := by
  refine SCalls.alone L rfl (fun w1 L1 => ?_) (by unfold outSR; split <;> rfl) hR
  clear hR
  refine selvageref16_Sum.calls ?_
  rw [selvageref16_Sum.b0_eq]
  refine rsums_spec L1 ?_
  unfold outSR
  rcases sums_same l with ⟨⟨a, d⟩, h1, h2, q1, q2, q3, q4, hl⟩ | ⟨h1, h2⟩
  · rw [h1]
    unfold outR
    repeat (first | ((with_reducible show opt _ _); refine opt_in rfl ?_) | ((with_reducible show isI _ _ _); refine isI_in ?_) | ((with_reducible show isTup _ _); refine isTup_in ?_) | ((with_reducible show isS _ _); refine isS_in ?_) | ((with_reducible show isB _ _); refine isB_in ?_))
    refine condB_split (fun h => absurd h (by decide)) (fun _ => ?_)
    refine selvageref16_Sum.n18_weak (l_' := cntsA l) (out' := rsumA []) (i' := 0) (τ := rsumS []) (EWeak.nil (t := 7) (es := 3) rfl rfl) ?_
    refine rsum_loop L1 l hl l 0 [] rfl (by simpa using hl) ?_
    unfold sumsR at h1
    rw [if_neg (by omega)] at h1
    obtain ⟨g1, g2, g3⟩ := sumR_some l 0 0 _ rfl rfl h1
    obtain ⟨-, -, k3⟩ := sA_pos l g1
    intro c hc
    have k4 := k3 c hc
    obtain ⟨p1, p2⟩ := g1 c hc
    omega
  · rw [h1]
    unfold outR
    repeat (first | ((with_reducible show opt _ _); refine opt_in rfl ?_) | ((with_reducible show isI _ _ _); refine isI_in ?_) | ((with_reducible show isTup _ _); refine isTup_in ?_) | ((with_reducible show isS _ _); refine isS_in ?_) | ((with_reducible show isB _ _); refine isB_in ?_))
    refine condB_split (fun _ => ?_) (fun h => absurd h (by decide))
    exact fin_seal (σ := []) (L := []) glob0 rfl rfl rfl
end
end Go.Sv
