/- What the code of package context answers where it prints: a range, a run, the marks, a part. -/
import Derived.Test.YtebgkjjbbnbnlaaGreatDoorCxA
import Derived.Test.YtebgkjjbbnbnlaaGreatDoorCxP
set_option linter.unusedVariables false
set_option linter.unusedSimpArgs false
set_option maxRecDepth 100000
namespace Go.Sv
section
open Go Go.RowKit Go.Proofs
variable {w0 : Base} {σ : Store} {R : AV → Store → Prop}
def spanC (a n : Int) : List UInt8 := if n < 2 then Lib.itoa a else (Lib.itoa a ++ [44]) ++ Lib.itoa (a + n - 1)
theorem spanC_len {a n : Int} (h0 : 0 ≤ a) (h1 : a ≤ 2147483647) (h2 : 0 ≤ n) (h3 : n ≤ 2147483647) : (spanC a n).length ≤ 41 := by
  have e1 := itoa_len (n := a) h0 (by omega)
  unfold spanC; split
  · omega
  · have e2 := itoa_len (n := a + n - 1) (by omega) (by omega)
    simp only [List.length_append, List.length_singleton]; omega
theorem cspan_spec (L : Laid w0.w) {a n : Int} (h0 : 0 ≤ a) (h1 : a ≤ 2147483647) (h2 : 0 ≤ n) (h3 : n ≤ 2147483647) (hR : R (.pv (.str (spanC a n))) σ) : SCalls (cx w0) context_span.id [.pv (.int .i64 a), .pv (.int .i64 n)] σ R := by
  refine SCalls.alone L rfl (fun w1 L1 => ?_) rfl hR
  have e1 := itoa_len (n := a) h0 (by omega)
  refine context_span.calls ?_
  rw [context_span.b0_eq, condB_decide]
  refine ite_split (fun g => ?_) (fun g => ?_)
  · refine Itoa_spec L1 (by omega) (by omega) (isS_in (fin_keep (Nat.zero_le _) ?_))
    rw [spanC, if_pos g]
  · have e2 := itoa_len (n := a + n - 1) (by omega) (by omega)
    refine Itoa_spec L1 (by omega) (by omega) (isS_in ⟨by simp only [List.length_singleton]; omega, ?_⟩)
    rw [wrap_i64 (n := a + n) (by omega) (by omega), wrap_i64 (by omega) (by omega)]
    refine Itoa_spec L1 (by omega) (by omega) (isS_in ⟨by simp only [List.length_append, List.length_singleton]; omega, fin_keep (Nat.zero_le _) ?_⟩)
    rw [spanC, if_neg g]
theorem rows_sized' : ∀ l : List Row, sized 2 (l.map rowP) = true := by
  intro l
  simp only [sized, List.all_eq_true, List.mem_map]
  rintro x ⟨r, _, rfl⟩
  rfl
theorem slice_rows {l : List Row} {k : Nat} (h : k ≤ l.length) : aSlice σ tabS ti37.td (.pv (rowsP l)) (some (.pv (.int .i64 (k : Int)))) none = some (.pv (rowsP (l.drop k))) := by
  show (if (0 : Int) ≤ (k : Int) ∧ (k : Int) ≤ (((l.map rowP).length : Nat) : Int) ∧ (((l.map rowP).length : Nat) : Int) ≤ (((l.map rowP).length : Nat) : Int) then (if sized 2 (l.map rowP) = true then some (AV.pv (.sl (((l.map rowP).take (((l.map rowP).length : Nat) : Int).toNat).drop (k : Int).toNat))) else none) else none) = _
  rw [if_pos (by rw [List.length_map]; omega), if_pos (rows_sized' l)]
  simp [List.take_of_length_le]
theorem slice_rows2 {l : List Row} {k m : Nat} (h : k ≤ m) (hm : m ≤ l.length) : aSlice σ tabS ti37.td (.pv (rowsP l)) (some (.pv (.int .i64 (k : Int)))) (some (.pv (.int .i64 (m : Int)))) = some (.pv (rowsP ((l.take m).drop k))) := by
  show (if (0 : Int) ≤ (k : Int) ∧ (k : Int) ≤ (m : Int) ∧ (m : Int) ≤ (((l.map rowP).length : Nat) : Int) then (if sized 2 (l.map rowP) = true then some (AV.pv (.sl (((l.map rowP).take (m : Int).toNat).drop (k : Int).toNat))) else none) else none) = _
  rw [if_pos (by rw [List.length_map]; omega), if_pos (rows_sized' l)]
  simp
abbrev runA (n : Nat) (o f : Bool) : AV := .tup [.pv (.int .i64 (n : Int)), .pv (.bool o), .pv (.bool f)]
theorem run_loop (l : List Row) (hl : l.length ≤ 1048576) (v : AV) : ∀ (r : List Row) (k : Nat) (o f : Bool), l.drop k = r → v = runA (k + runN r) (o || runHas 2 r) (f || runHas 3 r) →
    context_run.n4 (context_run.X w0 0) w0 0 (fun r' _ => r' = v) [] (.pv (rowsP l)) (k : Int) o f := by
  intro r
  induction r with
  | nil =>
    intro k o f hd hv
    have hk := drop_end hd
    refine context_run.n4_in ?_
    rw [context_run.b5_eq]
    repeat ((with_reducible first | apply opt_in | apply wI | apply wT | apply wP | apply wS | apply wB); exact rfl)
    rw [condB_decide, if_neg (by rw [List.length_map]; omega)]
    generalize hb : false = b
    refine context_run.n8_in ?_
    rw [context_run.b8_eq, ← hb, condB_false']
    refine context_run.n17_in ?_
    rw [context_run.b17_eq]
    refine fin_keep (Nat.zero_le _) ?_
    rw [hv]; simp [runN, runHas]
  | cons c r ih =>
    intro k o f hd hv
    obtain ⟨h1, h2, hk⟩ := drop_facts hd
    have hg : (l.map rowP)[k]? = some (rowP c) := by rw [List.getElem?_map, h1]; rfl
    have idx : ∀ σ, aIndexAddr σ tabS ti37.td (.pv (rowsP l)) (k : Int) = some (.ro (rowP c) 0) := fun σ => idx_ro tab51 hg rfl
    refine context_run.n4_in ?_
    rw [context_run.b5_eq]
    repeat ((with_reducible first | apply opt_in | apply wI | apply wT | apply wP | apply wS | apply wB); exact rfl)
    rw [condB_decide, if_pos (by rw [List.length_map]; omega)]
    refine opt_in (idx _) ?_
    repeat ((with_reducible first | apply opt_in | apply wI | apply wT | apply wP | apply wS | apply wB); exact rfl)
    have key : ∀ t, t = (c.k != 1) → context_run.n8 (context_run.X w0 0) w0 0 (fun r' _ => r' = v) [] (.pv (rowsP l)) (k : Int) o f t := by
      intro t ht
      refine context_run.n8_in ?_
      rw [context_run.b8_eq]
      refine condB_split (fun g => ?_) (fun g => ?_)
      · have h1 : c.k ≠ 1 := by rw [g] at ht; simpa using ht.symm
        have h16 : ∀ o' f', o' = (o || (c.k == 2)) → f' = (f || (c.k == 3)) → context_run.n16 (context_run.X w0 0) w0 0 (fun r' _ => r' = v) [] (.pv (rowsP l)) (k : Int) o' f' := by
          rintro o' f' rfl rfl
          refine context_run.n16_in ?_
          rw [context_run.b16_eq, wrap_next hk (by omega)]
          refine ih (k + 1) _ _ h2 ?_
          rw [hv, runN, if_neg h1, runHas, runHas, if_neg h1, if_neg h1, Bool.or_assoc, Bool.or_assoc]
          rw [show k + (runN r + 1) = k + 1 + runN r by omega]
        have h14 : ∀ o', o' = (o || (c.k == 2)) → context_run.n14 (context_run.X w0 0) w0 0 (fun r' _ => r' = v) [] (.pv (rowsP l)) (k : Int) o' f := by
          intro o' ho
          refine context_run.n14_in ?_
          rw [context_run.b14_eq]
          refine condB_split (fun g2 => ?_) (fun g2 => ?_)
          · generalize hb : true = b
            exact h16 _ b ho (by rw [g2, ← hb]; rfl)
          · refine opt_in (idx _) ?_
            repeat ((with_reducible first | apply opt_in | apply wI | apply wT | apply wP | apply wS | apply wB); exact rfl)
            exact h16 _ _ ho (by rw [g2]; rfl)
        refine condB_split (fun g2 => ?_) (fun g2 => ?_)
        · generalize hb : true = b
          exact h14 b (by rw [g2, ← hb]; rfl)
        · refine opt_in (idx _) ?_
          repeat ((with_reducible first | apply opt_in | apply wI | apply wT | apply wP | apply wS | apply wB); exact rfl)
          exact h14 _ (by rw [g2]; rfl)
      · have h1 : c.k = 1 := by rw [g] at ht; simpa using ht.symm
        refine context_run.n17_in ?_
        rw [context_run.b17_eq]
        refine fin_keep (Nat.zero_le _) ?_
        rw [hv, runN, if_pos h1, runHas, runHas, if_pos h1, if_pos h1]
        simp
    exact key _ rfl
theorem run_spec (L : Laid w0.w) {l : List Row} (hl : l.length ≤ 1048576) (hR : R (runA (runN l) (runHas 2 l) (runHas 3 l)) σ) : SCalls (cx w0) context_run.id [.pv (rowsP l)] σ R := by
  refine SCalls.alone L rfl (fun w1 L1 => ?_) rfl hR
  refine context_run.calls ?_
  rw [context_run.b0_eq]
  generalize hb : false = b
  have := run_loop (w0 := w1) l hl (runA (runN l) (runHas 2 l) (runHas 3 l)) l 0 b b rfl (by rw [← hb]; simp)
  exact this
abbrev mkS (acc : List UInt8) : Store := [.arr 1 (bytesPV acc) false]
abbrev mkA (acc : List UInt8) : AV := .arr 0 acc.length 0 acc.length
theorem mk_seal (acc : List UInt8) : sealR 0 ([] ++ mkS acc) (mkA acc) = some (.pv (.sl (bytesPV acc))) := by
  show (if (bytesPV acc).length = acc.length ∧ 0 + acc.length ≤ acc.length then some (AV.pv (.sl (((bytesPV acc).drop 0).take acc.length))) else none) = _
  rw [if_pos ⟨bytesPV_length acc, by omega⟩, List.drop_zero, List.take_of_length_le (by rw [bytesPV_length]; omega)]
theorem marks_inner (l : List Row) (hl : l.length ≤ 1048576) (run : List Row) (hrun : run.length ≤ 1048576) (o f : Bool) (acc0 : List UInt8) (ha : acc0.length ≤ 1048576) (v : AV)
    (next : context_marks.n6 (context_marks.X w0 0) w0 0 (fun r' _ => r' = v) (mkS (acc0 ++ run.map fun x => markR o f x.k)) (.pv (rowsP l)) (mkA (acc0 ++ run.map fun x => markR o f x.k))) : ∀ (r done : List Row), run = done ++ r →
    context_marks.n27 (context_marks.X w0 0) w0 0 (fun r' _ => r' = v) (mkS (acc0 ++ done.map fun x => markR o f x.k)) (.pv (rowsP l)) (mkA (acc0 ++ done.map fun x => markR o f x.k)) o f (.pv (rowsP run)) run.length done.length
  | [], done, h => by
    rw [List.append_nil] at h
    subst h
    refine context_marks.n27_in ?_
    rw [context_marks.b28_eq, condB_decide, if_neg (by omega)]
    exact next
  | c :: r, done, h => by
    have hk : (run.map rowP)[done.length]? = some (rowP c) := by rw [h]; simp
    have hlen : run.length = done.length + (r.length + 1) := by rw [h]; simp
    have ih := marks_inner l hl run hrun o f acc0 ha v next r (done ++ [c]) (by rw [h]; simp)
    refine context_marks.n27_in ?_
    rw [context_marks.b28_eq, condB_decide, if_pos (by omega)]
    refine opt_in (idx_ro tab51 hk rfl) ?_
    repeat ((with_reducible first | apply opt_in | apply wI | apply wT | apply wP | apply wS | apply wB); exact rfl)
    have h48 : ∀ m : UInt8, m = markR o f c.k → context_marks.n48 (context_marks.X w0 0) w0 0 (fun r' _ => r' = v) [.arr 1 (bytesPV ((acc0 ++ done.map fun x => markR o f x.k) ++ [m])) false, .cells 51 [.pv (.int .i64 c.k), .pv (.str c.t)]] (.pv (rowsP l)) (mkA ((acc0 ++ done.map fun x => markR o f x.k) ++ [m])) o f (.pv (rowsP run)) run.length done.length := by
      rintro m rfl
      refine context_marks.n48_in ?_
      rw [context_marks.b48_eq, wrap_next (n := run.length) (by omega) (by omega)]
      refine context_marks.n27_weak (EWeak.drop (τ := mkS ((acc0 ++ done.map fun x => markR o f x.k) ++ [markR o f c.k])) glob0 (Nat.zero_le _) rfl rfl) ?_
      simp only [List.map_append, List.map_cons, List.map_nil, List.length_append, List.length_singleton, ← List.append_assoc] at ih
      exact ih
    have hal : (acc0 ++ done.map fun x => markR o f x.k).length + 1 ≤ 140737488355328 := by simp only [List.length_append, List.length_map]; omega
    have put : ∀ m : UInt8, aAppend [.arr 1 (bytesPV (acc0 ++ done.map fun x => markR o f x.k)) false, .cells 51 [.pv (.int .i64 c.k), .pv (.str c.t)]] ti5 (mkA (acc0 ++ done.map fun x => markR o f x.k)) (.pv (.sl [.int .u8 m.toNat])) = some (mkA ((acc0 ++ done.map fun x => markR o f x.k) ++ [m]), [.arr 1 (bytesPV ((acc0 ++ done.map fun x => markR o f x.k) ++ [m])) false, .cells 51 [.pv (.int .i64 c.k), .pv (.str c.t)]]) := fun m => append_bytes (id := 0) (s := [m]) rfl rfl hal
    have h41 : ∀ t, t = (o && f) → context_marks.n41 (context_marks.X w0 0) w0 0 (fun r' _ => r' = v) [.arr 1 (bytesPV (acc0 ++ done.map fun x => markR o f x.k)) false, .cells 51 [.pv (.int .i64 c.k), .pv (.str c.t)]] (.pv (rowsP l)) (mkA (acc0 ++ done.map fun x => markR o f x.k)) o f (.ptr 1 0) (.pv (rowsP run)) run.length done.length t := by
      intro t ht
      refine context_marks.n41_in ?_
      rw [context_marks.b41_eq]
      refine condB_split (fun g => ?_) (fun g => ?_)
      · refine opt2_in (v := .pv (.sl [.int .u8 (33 : UInt8).toNat])) rfl (opt2_in (put 33) (h48 _ ?_))
        rw [markR, ← ht, if_pos g]
      · repeat ((with_reducible first | apply opt_in | apply wI | apply wT | apply wP | apply wS | apply wB); exact rfl)
        rw [condB_ibeq]
        refine ite_split (fun g2 => ?_) (fun g2 => ?_)
        · refine opt2_in (v := .pv (.sl [.int .u8 (45 : UInt8).toNat])) rfl (opt2_in (put 45) (h48 _ ?_))
          rw [markR, ← ht, g, if_neg (by decide), if_pos g2]
        · refine opt2_in (v := .pv (.sl [.int .u8 (43 : UInt8).toNat])) rfl (opt2_in (put 43) (h48 _ ?_))
          rw [markR, ← ht, g, if_neg (by decide), if_neg g2]
    refine condB_split (fun g => ?_) (fun g => ?_)
    · exact h41 _ (by rw [g]; simp)
    · generalize hb : false = b
      exact h41 b (by rw [g, ← hb]; simp)
theorem marks_loop (L : Laid w0.w) (l : List Row) (hl : l.length ≤ 1048576) (v : AV) : ∀ (n : Nat) (acc : List UInt8), (l.drop acc.length).length ≤ n → acc.length ≤ l.length → v = .pv (.sl (bytesPV (acc ++ marksF n (l.drop acc.length)))) →
    context_marks.n6 (context_marks.X w0 0) w0 0 (fun r' _ => r' = v) (mkS acc) (.pv (rowsP l)) (mkA acc) := by
  have stop : ∀ acc : List UInt8, v = .pv (.sl (bytesPV acc)) → ¬ ((acc.length : Int) < (l.length : Int)) → context_marks.n6 (context_marks.X w0 0) w0 0 (fun r' _ => r' = v) (mkS acc) (.pv (rowsP l)) (mkA acc) := by
    intro acc hv hlt
    refine context_marks.n6_in ?_
    rw [context_marks.b7_eq]
    repeat ((with_reducible first | apply opt_in | apply wI | apply wT | apply wP | apply wS | apply wB); exact rfl)
    rw [condB_decide, if_neg (by rw [List.length_map]; exact hlt)]
    refine context_marks.n49_in ?_
    rw [context_marks.b49_eq]
    exact fin_seal (σ := []) (L := mkS acc) glob0 rfl (mk_seal acc) hv.symm
  intro n
  induction n with
  | zero =>
    intro acc h ha hv
    rw [List.length_drop] at h
    refine stop acc ?_ (by omega)
    rw [hv]; simp [marksF]
  | succ n ih =>
    intro acc h ha hv
    cases hd : l.drop acc.length with
    | nil =>
      have hk := drop_end hd
      refine stop acc ?_ (by omega)
      rw [hv, hd]; simp [marksF]
    | cons c r =>
      obtain ⟨h1, h2, hk⟩ := drop_facts hd
      rw [hd] at hv h
      refine context_marks.n6_in ?_
      rw [context_marks.b7_eq]
      repeat ((with_reducible first | apply opt_in | apply wI | apply wT | apply wP | apply wS | apply wB); exact rfl)
      rw [condB_decide, if_pos (by rw [List.length_map]; omega)]
      repeat ((with_reducible first | apply opt_in | apply wI | apply wT | apply wP | apply wS | apply wB); exact rfl)
      refine opt_in (slice_rows ha) ?_
      rw [hd]
      have hcl : (c :: r).length ≤ 1048576 := by
        have := congrArg List.length hd
        rw [List.length_drop] at this
        omega
      refine run_spec L hcl ?_
      have hN := runN_le (c :: r)
      have hdl : (l.drop acc.length).length = (c :: r).length := by rw [hd]
      rw [List.length_drop] at hdl
      repeat ((with_reducible first | apply opt_in | apply wI | apply wT | apply wP | apply wS | apply wB); exact rfl)
      rw [condB_ibeq]
      by_cases g : c.k = 1
      · have e0 : runN (c :: r) = 0 := by rw [runN, if_pos g]
        rw [if_pos (by rw [e0]; rfl)]
        refine opt2_in (v := .pv (.sl [.int .u8 (32 : UInt8).toNat])) rfl ?_
        refine opt2_in (append_bytes (id := 0) (acc := acc) (s := [32]) rfl rfl (by simp only [List.length_singleton]; omega)) ?_
        have e : l.drop (acc ++ [32]).length = r := by rw [List.length_append]; exact h2
        refine ih (acc ++ [32]) (by rw [e]; simp only [List.length_cons] at h; omega) (by rw [List.length_append, List.length_singleton]; omega) ?_
        rw [e, hv, marksF, if_pos g, List.append_assoc]; rfl
      · have hpos : 0 < runN (c :: r) := by rw [runN, if_neg g]; omega
        rw [if_neg (by omega)]
        repeat ((with_reducible first | apply opt_in | apply wI | apply wT | apply wP | apply wS | apply wB); exact rfl)
        rw [wrap_i64 (by omega) (by omega), show (acc.length : Int) + (runN (c :: r) : Int) = ((acc.length + runN (c :: r) : Nat) : Int) by omega]
        refine opt_in (slice_rows2 (by omega) (by omega)) ?_
        have er : (l.take (acc.length + runN (c :: r))).drop acc.length = (c :: r).take (runN (c :: r)) := by
          rw [← hd, List.drop_take, show acc.length + runN (List.drop acc.length l) - acc.length = runN (List.drop acc.length l) by omega]
        rw [er]
        repeat ((with_reducible first | apply opt_in | apply wI | apply wT | apply wP | apply wS | apply wB); exact rfl)
        rw [List.length_map]
        have hrl : ((c :: r).take (runN (c :: r))).length = runN (c :: r) := by rw [List.length_take]; omega
        have hal : (acc ++ ((c :: r).take (runN (c :: r))).map fun x => markR (runHas 2 (c :: r)) (runHas 3 (c :: r)) x.k).length = acc.length + runN (c :: r) := by rw [List.length_append, List.length_map, hrl]
        have e : l.drop (acc ++ ((c :: r).take (runN (c :: r))).map fun x => markR (runHas 2 (c :: r)) (runHas 3 (c :: r)) x.k).length = (c :: r).drop (runN (c :: r)) := by rw [hal, ← List.drop_drop, hd]
        have nx := ih (acc ++ ((c :: r).take (runN (c :: r))).map fun x => markR (runHas 2 (c :: r)) (runHas 3 (c :: r)) x.k) (by rw [e, List.length_drop]; omega) (by omega) (by rw [e, hv, marksF, if_neg g, List.append_assoc])
        have := marks_inner l hl ((c :: r).take (runN (c :: r))) (by omega) (runHas 2 (c :: r)) (runHas 3 (c :: r)) acc (by omega) v nx ((c :: r).take (runN (c :: r))) [] rfl
        simp only [List.map_nil, List.append_nil, List.length_nil] at this
        exact this
theorem make_bytes {σ : Store} {n : Nat} (h : n ≤ 140737488355328) : aMakeSlice σ ti5 0 (n : Int) = some (.arr σ.length 0 0 0, σ ++ [.arr 1 [] false]) := by
  have hr : (0 : Int) ≤ 0 ∧ (0 : Int) ≤ (n : Int) ∧ roomy (n : Int).toNat ti5.bytes ∧ (PV.int .u8 0).cells.length = ti5.size := ⟨by omega, by omega, ⟨by rw [Int.toNat_natCast]; exact h, by rw [Int.toNat_natCast]; show n * 1 ≤ _; omega⟩, rfl⟩
  show (if (0 : Int) ≤ 0 ∧ (0 : Int) ≤ (n : Int) ∧ roomy (n : Int).toNat ti5.bytes ∧ (PV.int .u8 0).cells.length = ti5.size then some (AV.arr σ.length (0 : Int).toNat 0 (0 : Int).toNat, σ ++ [SObj.arr ti5.size (List.replicate (0 : Int).toNat (PV.int .u8 0)) false]) else none) = _
  rw [if_pos hr]
  rfl
theorem marks_spec (L : Laid w0.w) {l : List Row} (hl : l.length ≤ 1048576) (hR : R (.pv (.sl (bytesPV (marksF l.length l)))) σ) : SCalls (cx w0) context_marks.id [.pv (rowsP l)] σ R := by
  refine SCalls.alone L rfl (fun w1 L1 => ?_) rfl hR
  refine context_marks.calls ?_
  rw [context_marks.b0_eq]
  repeat ((with_reducible first | apply opt_in | apply wI | apply wT | apply wP | apply wS | apply wB); exact rfl)
  exact opt2_in (make_bytes (by rw [List.length_map]; omega)) (marks_loop L1 l hl _ l.length [] (Nat.le_refl _) (Nat.zero_le _) rfl)
end
end Go.Sv
