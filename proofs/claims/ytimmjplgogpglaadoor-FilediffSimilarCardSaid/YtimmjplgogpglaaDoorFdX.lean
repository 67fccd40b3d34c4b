/- How much of two texts is the same: as a plain number, and what both sides answer. -/
import Derived.Test.YtimmjplgogpglaaDoorFdU
import Derived.Test.YtimmjplgogpglaaDoorFdV
import Derived.Test.YtimmjplgogpglaaDoorFdW
set_option linter.unusedVariables false
set_option linter.unusedSimpArgs false
set_option maxRecDepth 100000
namespace Go.Sv
theorem atF_ext {s : Ln} : ∀ (kn ext : List Ln), atF s kn < kn.length → atF s (kn ++ ext) = atF s kn
  | [], ext, h => by cases h
  | k :: r, ext, h => by
    unfold atF at h
    rw [List.cons_append]
    unfold atF
    by_cases e : k = s
    · rw [if_pos e, if_pos e]
    · rw [if_neg e] at h
      rw [if_neg e, if_neg e, atF_ext r ext (by simpa using h)]
theorem atF_new {s : Ln} : ∀ (kn : List Ln), atF s kn = kn.length → atF s (kn ++ [s]) = kn.length
  | [], _ => by simp [atF]
  | k :: r, h => by
    unfold atF at h
    rw [List.cons_append]
    unfold atF
    by_cases e : k = s
    · rw [if_pos e] at h; simp at h
    · rw [if_neg e] at h
      rw [if_neg e, atF_new r (by simpa using h)]; rfl
theorem addK_at (kn : List Ln) (s : Ln) : atF s (addK kn s) = atF s kn ∧ atF s kn < (addK kn s).length := by
  unfold addK
  have := atF_le s kn
  split
  · rename_i h
    rw [atF_new kn h, List.length_append, List.length_singleton]
    omega
  · exact ⟨rfl, by omega⟩
theorem addK_ext (kn : List Ln) (s : Ln) : ∃ ext, addK kn s = kn ++ ext := by
  unfold addK
  split
  · exact ⟨[s], rfl⟩
  · exact ⟨[], (List.append_nil _).symm⟩
theorem knF_ext : ∀ (l kn : List Ln), ∃ ext, knF kn l = kn ++ ext
  | [], kn => ⟨[], (List.append_nil _).symm⟩
  | s :: r, kn => by
    obtain ⟨e1, h1⟩ := addK_ext kn s
    obtain ⟨e2, h2⟩ := knF_ext r (addK kn s)
    exact ⟨e1 ++ e2, by show knF (addK kn s) r = _; rw [h2, h1, List.append_assoc]⟩
theorem knF_mem : ∀ (l kn : List Ln) (s : Ln), s ∈ l → atF s (knF kn l) < (knF kn l).length
  | [], kn, s, h => by cases h
  | t :: r, kn, s, h => by
    show atF s (knF (addK kn t) r) < (knF (addK kn t) r).length
    rcases List.mem_cons.1 h with rfl | h
    · obtain ⟨ext, he⟩ := knF_ext r (addK kn s)
      have h1 := addK_at kn s
      rw [he, atF_ext _ _ (by rw [h1.1]; exact h1.2), h1.1, List.length_append]
      omega
    · exact knF_mem r (addK kn t) s h
theorem xsF_map : ∀ (l kn : List Ln), xsF kn l = l.map fun s => (atF s (knF kn l) : Int)
  | [], kn => rfl
  | s :: r, kn => by
    have h1 := addK_at kn s
    obtain ⟨ext, he⟩ := knF_ext r (addK kn s)
    have h2 : atF s (knF (addK kn s) r) = atF s kn := by rw [he, atF_ext _ _ (by rw [h1.1]; exact h1.2), h1.1]
    show (atF s kn : Int) :: xsF (addK kn s) r = _
    rw [xsF_map r (addK kn s), List.map_cons]
    show _ = (atF s (knF (addK kn s) r) : Int) :: _
    rw [h2]; rfl
theorem xsF_len (l kn : List Ln) : (xsF kn l).length = l.length := by rw [xsF_map, List.length_map]
def eqS (a b : List Ln) (i j : Nat) : Bool := match a[i]?, b[j]? with
  | some u, some v => u == v
  | _, _ => false
def lcsS (a b : List Ln) : Nat := lcsF (eqS a b) a.length b.length
def numF (K : List Ln) (l : List Ln) : List Int := l.map fun s => (atF s K : Int)
structure NumOK (K a b : List Ln) : Prop where
  a : ∀ s ∈ a, atF s K < K.length
  b : ∀ s ∈ b, atF s K < K.length
theorem num_two (a b : List Ln) : ∃ K, NumOK K a b ∧ xsF [] a = numF K a ∧ xsF (knF [] a) b = numF K b := by
  obtain ⟨ext, he⟩ := knF_ext b (knF [] a)
  have hm : ∀ s ∈ a, atF s (knF (knF [] a) b) = atF s (knF [] a) := fun s hs => by rw [he, atF_ext _ _ (knF_mem a [] s hs)]
  refine ⟨knF (knF [] a) b, ⟨fun s hs => ?_, fun s hs => knF_mem b (knF [] a) s hs⟩, ?_, xsF_map b (knF [] a)⟩
  · rw [hm s hs, he, List.length_append]
    have := knF_mem a [] s hs
    omega
  · rw [xsF_map]
    exact List.map_congr_left fun s hs => by rw [hm s hs]
theorem num_inj {K : List Ln} {s t : Ln} (h1 : atF s K < K.length) (h2 : atF t K < K.length) (h : atF s K = atF t K) : s = t := by
  have g1 := atF_get s K h1
  have g2 := atF_get t K h2
  rw [h, g2] at g1
  simpa using g1.symm
theorem num_eq {K a b : List Ln} (h : NumOK K a b) : eqL (numF K a) (numF K b) = eqS a b := by
  funext i j
  unfold eqL eqS numF
  rw [List.getElem?_map, List.getElem?_map]
  cases ha : a[i]? with
  | none => rfl
  | some s =>
    cases hb : b[j]? with
    | none => rfl
    | some t =>
      have m1 := h.a s (List.mem_of_getElem? ha)
      have m2 := h.b t (List.mem_of_getElem? hb)
      simp only [Option.map_some]
      rw [Bool.eq_iff_iff, beq_iff_eq, beq_iff_eq]
      constructor
      · intro e; exact num_inj m1 m2 (by omega)
      · intro e; rw [e]
theorem num_lcs {K a b : List Ln} (h : NumOK K a b) : lcsL (numF K a) (numF K b) = lcsS a b := by
  unfold lcsL lcsS
  rw [num_eq h]
  unfold numF
  rw [List.length_map, List.length_map]
theorem ids_lcs (a b : List Ln) : lcsL (xsF [] a) (xsF (knF [] a) b) = lcsS a b := by
  obtain ⟨K, h, h1, h2⟩ := num_two a b
  rw [h1, h2, num_lcs h]
theorem lcsL_swap (a b : List Int) : lcsL b a = lcsL a b := by
  have h1 := lcs_cnt a b
  have h2 := lcs_cnt b a
  rw [cnt_swap] at h2
  omega
theorem lcsS_swap (a b : List Ln) : lcsS b a = lcsS a b := by
  obtain ⟨K, h, _, _⟩ := num_two a b
  rw [← num_lcs h, ← num_lcs (K := K) ⟨h.b, h.a⟩, lcsL_swap]
theorem num_same {K : List Ln} : ∀ {a b : List Ln}, NumOK K a b → numF K a = numF K b → a = b
  | [], [], _, _ => rfl
  | [], t :: b, _, h => by simp [numF] at h
  | s :: a, [], _, h => by simp [numF] at h
  | s :: a, t :: b, ho, h => by
    simp only [numF, List.map_cons, List.cons.injEq] at h
    have e1 := num_inj (ho.a s (by simp)) (ho.b t (by simp)) (by omega)
    have e2 := num_same (a := a) (b := b) ⟨fun x hx => ho.a x (by simp [hx]), fun x hx => ho.b x (by simp [hx])⟩ h.2
    rw [e1, e2]
theorem lcsS_all (a b : List Ln) : 2 * lcsS a b ≤ a.length + b.length ∧ (2 * lcsS a b = a.length + b.length ↔ a = b) := by
  obtain ⟨K, h, _, _⟩ := num_two a b
  have h1 := lcs_cnt (numF K a) (numF K b)
  rw [num_lcs h] at h1
  have l1 : (numF K a).length = a.length := List.length_map _
  have l2 : (numF K b).length = b.length := List.length_map _
  rw [l1, l2] at h1
  refine ⟨by omega, fun e => ?_, fun e => ?_⟩
  · exact num_same h ((cnt_zero _ _).1 (by omega))
  · have : cntL (numF K a) (numF K b) = 0 := (cnt_zero _ _).2 (by rw [e])
    omega
def simN (s t : List UInt8) : Nat := if (splitF s).length + (splitF t).length = 0 then 100 else 200 * lcsS (splitF s) (splitF t) / ((splitF s).length + (splitF t).length)
theorem simN_swap (s t : List UInt8) : simN t s = simN s t := by
  unfold simN
  rw [lcsS_swap, Nat.add_comm]
theorem part_le {c n : Nat} (h : 2 * c ≤ n) (hn : n ≠ 0) : 200 * c / n ≤ 100 ∧ (200 * c / n = 100 ↔ 2 * c = n) := by
  have h1 : 200 * c / n ≤ 100 := by
    refine Nat.div_le_of_le_mul ?_
    rw [Nat.mul_comm]; omega
  refine ⟨h1, fun e => ?_, fun e => ?_⟩
  · have h2 : n * (200 * c / n) ≤ 200 * c := Nat.mul_div_le _ _
    rw [e] at h2
    omega
  · subst e
    rw [show 200 * c = 100 * (2 * c) by omega, Nat.mul_div_cancel _ (by omega)]
theorem simN_all (s t : List UInt8) : simN s t ≤ 100 ∧ (simN s t = 100 ↔ s = t) := by
  unfold simN
  split
  · rename_i h
    refine ⟨Nat.le_refl _, fun _ => ?_, fun _ => rfl⟩
    have h1 : splitF s = [] := List.length_eq_zero_iff.1 (by omega)
    have h2 : splitF t = [] := List.length_eq_zero_iff.1 (by omega)
    rw [← splitF_flat s, ← splitF_flat t, h1, h2]
  · rename_i h
    have ⟨g1, g2⟩ := lcsS_all (splitF s) (splitF t)
    have ⟨g3, g4⟩ := part_le g1 h
    refine ⟨g3, ?_⟩
    rw [g4, g2]
    refine ⟨fun e => ?_, fun e => by rw [e]⟩
    rw [← splitF_flat s, ← splitF_flat t, e]
theorem mem_flat : ∀ (L : List Ln) (l : Ln), l ∈ L → l.length ≤ L.flatten.length
  | [], l, h => by cases h
  | x :: L, l, h => by
    rw [List.flatten_cons, List.length_append]
    rcases List.mem_cons.1 h with rfl | h
    · omega
    · have := mem_flat L l h; omega
theorem splitF_mem {s l : Ln} (h : l ∈ splitF s) : l.length ≤ s.length := by
  have := mem_flat _ _ h
  rwa [splitF_flat] at this
open Go Go.RowKit Go.Proofs
section
variable {w0 : Base} {σ : Store} {R : AV → Store → Prop}
theorem per_cent {c n : Nat} (h : 2 * c ≤ n) (hn : n ≤ 8388608) : IntKind.wrap .i64 (Int.tdiv (IntKind.wrap .i64 (200 * (c : Int))) (n : Int)) = ((200 * c / n : Nat) : Int) := by
  have h2 : 200 * c / n ≤ 200 * c := Nat.div_le_self _ _
  have e : Int.tdiv (200 * (c : Int)) (n : Int) = ((200 * c / n : Nat) : Int) := by
    rw [Int.tdiv_eq_ediv_of_nonneg (by omega)]
    exact_mod_cast rfl
  have w1 : IntKind.wrap .i64 (200 * (c : Int)) = 200 * (c : Int) := wrap_i64 (by omega) (by omega)
  rw [w1, e]
  clear e w1
  generalize 200 * c / n = q at h2 ⊢
  exact wrap_i64 (by omega) (by omega)
def simA (s t : List UInt8) : AV := if s.length ≤ 4194304 ∧ t.length ≤ 4194304 then .tup [.pv (.int .i64 (simN s t : Int)), .pv (.raw .nilIface)] else .tup [.pv (.int .i64 0), .pv (.iface 42 (.int .i64 2))]
def simD (s t : List UInt8) : AV := if s.length ≤ 4194304 ∧ t.length ≤ 4194304 then .tup [.pv (.int .i64 (simN s t : Int)), .pv (.int .i64 0)] else .tup [.pv (.int .i64 0), .pv (.int .i64 2)]
theorem Similarity_spec (L : Laid w0.w) {s t : List UInt8} (hR : R (simA s t) σ) : SCalls (cx w0) filediff_Similarity.id [.pv (.str s), .pv (.str t)] σ R := by
  have h5 : ∀ q : Bool, (q = false ↔ (s.length ≤ 4194304 ∧ t.length ≤ 4194304)) → filediff_Similarity.n5 (filediff_Similarity.X w0 σ.length) w0 σ.length R σ s t q := by
    intro q hq
    refine filediff_Similarity.n5_in ?_
    rw [filediff_Similarity.b5_eq]
    refine condB_split (fun g => ?_) (fun g => ?_)
    · repeat ((with_reducible first | apply opt_in | apply wI | apply wT | apply wP | apply wS | apply wB); exact rfl)
      refine fin_same ?_
      unfold simA at hR
      rwa [if_neg (fun h => by rw [hq.2 h] at g; cases g)] at hR
    · obtain ⟨h1, h2⟩ := hq.1 g
      have l1 := splitF_len s
      have l2 := splitF_len t
      unfold simA at hR
      rw [if_pos ⟨h1, h2⟩] at hR
      refine Split_spec L (by omega) ?_
      refine Split_spec L (by omega) ?_
      refine Ids_spec L (by omega) (by omega) (fun l hl => by have := splitF_mem hl; omega) (fun l hl => by have := splitF_mem hl; omega) ?_
      repeat ((with_reducible first | apply opt_in | apply wI | apply wT | apply wP | apply wS | apply wB); exact rfl)
      rw [neq_raw]
      refine opt_in rfl (opt_in (v := true) rfl (isB_in ?_))
      rw [Bool.not_true, condB_false']
      repeat ((with_reducible first | apply opt_in | apply wI | apply wT | apply wP | apply wS | apply wB); exact rfl)
      rw [List.length_map, List.length_map, xsF_len, xsF_len, wrap_i64 (by omega) (by omega), condB_ibeq]
      refine ite_split (fun g0 => ?_) (fun g0 => ?_)
      · refine fin_same ?_
        unfold simN at hR
        rw [if_pos (by omega)] at hR
        exact hR
      · refine Common_spec L (by rw [xsF_len]; omega) (by rw [xsF_len]; omega) ?_
        repeat ((with_reducible first | apply opt_in | apply wI | apply wT | apply wP | apply wS | apply wB); exact rfl)
        rw [List.length_map, List.length_map, xsF_len, xsF_len, wrap_i64 (n := ((splitF s).length : Int) + _) (by omega) (by omega), ids_lcs]
        refine ⟨g0, ?_⟩
        refine fin_same ?_
        unfold simN at hR
        rw [if_neg (by omega)] at hR
        have := per_cent (lcsS_all (splitF s) (splitF t)).1 (by omega)
        rw [Int.natCast_add] at this
        rw [this]
        exact hR
  refine filediff_Similarity.calls ?_
  rw [filediff_Similarity.b0_eq, condB_decide]
  refine ite_split (fun g => ?_) (fun g => ?_)
  · refine h5 true ⟨nofun, fun h => absurd h.1 (by omega)⟩
  · refine h5 _ ?_
    rw [decide_eq_false_iff_not]
    omega
theorem rSimilarity_spec (L : Laid w0.w) {s t : List UInt8} (hR : R (simD s t) σ) : SCalls (cx w0) selvageref25_Similarity.id [.pv (.str s), .pv (.str t)] σ R := by
  have h5 : ∀ q : Bool, (q = false ↔ (s.length ≤ 4194304 ∧ t.length ≤ 4194304)) → selvageref25_Similarity.n5 (selvageref25_Similarity.X w0 σ.length) w0 σ.length R σ s t q := by
    intro q hq
    refine selvageref25_Similarity.n5_in ?_
    rw [selvageref25_Similarity.b5_eq]
    refine condB_split (fun g => ?_) (fun g => ?_)
    · refine fin_same ?_
      unfold simD at hR
      rwa [if_neg (fun h => by rw [hq.2 h] at g; cases g)] at hR
    · obtain ⟨h1, h2⟩ := hq.1 g
      have l1 := splitF_len s
      have l2 := splitF_len t
      unfold simD at hR
      rw [if_pos ⟨h1, h2⟩] at hR
      refine rSplit_spec L (by omega) ?_
      refine rSplit_spec L (by omega) ?_
      repeat ((with_reducible first | apply opt_in | apply wI | apply wT | apply wP | apply wS | apply wB); exact rfl)
      rw [List.length_map, List.length_map, wrap_i64 (by omega) (by omega), condB_ibeq]
      refine ite_split (fun g0 => ?_) (fun g0 => ?_)
      · refine fin_same ?_
        unfold simN at hR
        rw [if_pos (by omega)] at hR
        exact hR
      · refine rIds_spec L (by omega) (by omega) (fun l hl => by have := splitF_mem hl; omega) (fun l hl => by have := splitF_mem hl; omega) ?_
        repeat ((with_reducible first | apply opt_in | apply wI | apply wT | apply wP | apply wS | apply wB); exact rfl)
        refine rCommon_spec L (by rw [xsF_len]; omega) (by rw [xsF_len]; omega) ?_
        repeat ((with_reducible first | apply opt_in | apply wI | apply wT | apply wP | apply wS | apply wB); exact rfl)
        rw [List.length_map, List.length_map, wrap_i64 (n := ((splitF s).length : Int) + _) (by omega) (by omega), ids_lcs]
        refine ⟨g0, ?_⟩
        refine fin_same ?_
        unfold simN at hR
        rw [if_neg (by omega)] at hR
        have := per_cent (lcsS_all (splitF s) (splitF t)).1 (by omega)
        rw [Int.natCast_add] at this
        rw [this]
        exact hR
  refine selvageref25_Similarity.calls ?_
  rw [selvageref25_Similarity.b0_eq, condB_decide]
  refine ite_split (fun g => ?_) (fun g => ?_)
  · refine h5 true ⟨nofun, fun h => absurd h.1 (by omega)⟩
  · refine h5 _ ?_
    rw [decide_eq_false_iff_not]
    omega
theorem fnum_nil (L : Laid w0.w) (hR : R (.pv (.int .i64 0)) σ) : SCalls (cx w0) selvagelaw25_num.id [.pv (.raw .nilIface)] σ R := by
  refine SCalls.alone L rfl (fun w1 L1 => ?_) rfl hR
  refine selvagelaw25_num.calls ?_
  rw [selvagelaw25_num.b0_eq, eql_raw]
  refine opt_in rfl (opt_in (v := true) rfl (isB_in ?_))
  refine condB_split (fun _ => ?_) (fun h => absurd h (by decide))
  exact fin_keep (Nat.zero_le _) rfl
theorem fnum_err (L : Laid w0.w) {n : Int} (hR : R (.pv (.int .i64 n)) σ) : SCalls (cx w0) selvagelaw25_num.id [.pv (.iface 42 (.int .i64 n))] σ R := by
  refine SCalls.alone L rfl (fun w1 L1 => ?_) rfl hR
  refine selvagelaw25_num.calls ?_
  rw [selvagelaw25_num.b0_eq, eql_raw]
  refine opt_in rfl (opt_in (v := false) rfl (isB_in ?_))
  refine condB_split (fun h => absurd h (by decide)) (fun _ => ?_)
  refine opt_in rfl ?_
  refine As_spec (id := 0) L1 rfl (isB_in ?_)
  refine condB_split (fun _ => ?_) (fun h => absurd h (by decide))
  refine opt_in (v := .pv (.int .i64 n)) rfl (isI_in ?_)
  exact fin_keep (Nat.zero_le _) rfl
theorem similar_law {R : AV → Store → Prop} (L : Laid w0.w) {s t : List UInt8} (hR : R (.pv (.bool true)) σ) : SCalls (cx w0) selvagelaw25_FilediffSimilar.id [.pv (.str s), .pv (.str t)] σ R := by
  have fin : selvagelaw25_FilediffSimilar.n18 (selvagelaw25_FilediffSimilar.X w0 σ.length) w0 σ.length R σ true := by
    refine selvagelaw25_FilediffSimilar.n18_in ?_
    rw [selvagelaw25_FilediffSimilar.b18_eq]
    exact fin_same hR
  have hs := simN_all s t
  refine selvagelaw25_FilediffSimilar.calls ?_
  rw [selvagelaw25_FilediffSimilar.b0_eq]
  refine Similarity_spec L ?_
  by_cases hl : s.length ≤ 4194304 ∧ t.length ≤ 4194304
  · unfold simA
    rw [if_pos hl]
    repeat ((with_reducible first | apply opt_in | apply wI | apply wT | apply wP | apply wS | apply wB); exact rfl)
    refine rSimilarity_spec L ?_
    unfold simD
    rw [if_pos hl]
    repeat ((with_reducible first | apply opt_in | apply wI | apply wT | apply wP | apply wS | apply wB); exact rfl)
    rw [condB_ibne, if_pos rfl]
    refine fnum_nil L ?_
    repeat ((with_reducible first | apply opt_in | apply wI | apply wT | apply wP | apply wS | apply wB); exact rfl)
    rw [show ((0 : Int) != 0) = false from rfl]
    refine selvagelaw25_FilediffSimilar.n9_in ?_
    rw [selvagelaw25_FilediffSimilar.b9_eq, condB_false']
    refine Similarity_spec L ?_
    unfold simA
    rw [if_pos hl.symm, simN_swap]
    repeat ((with_reducible first | apply opt_in | apply wI | apply wT | apply wP | apply wS | apply wB); exact rfl)
    rw [condB_ibeq, if_pos rfl]
    refine fnum_nil L ?_
    repeat ((with_reducible first | apply opt_in | apply wI | apply wT | apply wP | apply wS | apply wB); exact rfl)
    rw [condB_ibeq, if_pos rfl, condB_ibne, if_pos rfl, condB_decide, if_pos (by omega), condB_decide, if_pos (by omega), eql_bool]
    refine opt_in rfl (opt_in (v := true) ?_ (isB_in ?_))
    · have hb : ((simN s t : Int) == 100) = (s == t) := by
        rw [Bool.eq_iff_iff, beq_iff_eq, beq_iff_eq, ← hs.2]
        omega
      rw [hb]
      generalize (s == t) = q
      cases q <;> rfl
    · rw [condB_true']
      exact moved_spec L fin
  · unfold simA
    rw [if_neg hl]
    repeat ((with_reducible first | apply opt_in | apply wI | apply wT | apply wP | apply wS | apply wB); exact rfl)
    refine rSimilarity_spec L ?_
    unfold simD
    rw [if_neg hl]
    repeat ((with_reducible first | apply opt_in | apply wI | apply wT | apply wP | apply wS | apply wB); exact rfl)
    rw [condB_ibne, if_pos rfl]
    refine fnum_err L ?_
    repeat ((with_reducible first | apply opt_in | apply wI | apply wT | apply wP | apply wS | apply wB); exact rfl)
    rw [show ((2 : Int) != 2) = false from rfl]
    refine selvagelaw25_FilediffSimilar.n9_in ?_
    rw [selvagelaw25_FilediffSimilar.b9_eq, condB_false']
    refine Similarity_spec L ?_
    unfold simA
    rw [if_neg (fun h => hl h.symm)]
    repeat ((with_reducible first | apply opt_in | apply wI | apply wT | apply wP | apply wS | apply wB); exact rfl)
    rw [condB_ibeq, if_pos rfl]
    refine fnum_err L ?_
    repeat ((with_reducible first | apply opt_in | apply wI | apply wT | apply wP | apply wS | apply wB); exact rfl)
    rw [condB_ibeq, if_pos rfl, condB_ibne, if_neg (by decide)]
    exact moved_spec L (isB_in fin)
theorem FilediffSimilar_spec {w0 : Base} (L : Laid w0.w) {p q : PV} (h1 : hasT tabS 12 9 p) (h2 : hasT tabS 12 9 q) : SCalls (cx w0) selvagelaw25_FilediffSimilar.id [.pv p, .pv q] [] fun r _ => r = .pv (.bool true) := by
  obtain ⟨s, rfl, _⟩ := hasT_str tab9 rfl h1
  obtain ⟨t, rfl, _⟩ := hasT_str tab9 rfl h2
  exact similar_law L rfl
end
end Go.Sv
