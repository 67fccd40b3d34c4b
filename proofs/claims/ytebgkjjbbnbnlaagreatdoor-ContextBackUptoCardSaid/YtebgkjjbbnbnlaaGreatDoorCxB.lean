/- What the code of package context answers where it prints: a range, a run, the marks, a part. Package unified: a file's text; the law UnifiedPrints. What the code of package context answers where it prints: a part, a hunk, a file's hunks. -/
import Derived.Test.YtebgkjjbbnbnlaaGreatDoorCxX
import Derived.Test.YtebgkjjbbnbnlaaGreatDoorCxP
import Derived.Test.YtebgkjjbbnbnlaaGreatDoorSvBk
import Derived.Test.YtebgkjjbbnbnlaaGreatDoorUnP
set_option linter.unusedVariables false
set_option linter.unusedSimpArgs false
set_option maxRecDepth 100000
section
namespace Go.Sv
section
open Go Go.RowKit Go.Proofs
variable {w0 : Base} {σ : Store} {R : AV → Store → Prop}
def spanC (a n : Int) : List UInt8 := if n < 2 then Lib.itoa a else (Lib.itoa a ++ [44]) ++ Lib.itoa (a + n - 1)
theorem spanC_len {a n : Int} (h0 : 0 ≤ a) (h1 : a ≤ 2147483647) (h2 : 0 ≤ n) (h3 : n ≤ 2147483647) : (spanC a n).length ≤ 41 := by
  have e1 := Y4 (n := a) h0 (by omega)
  unfold spanC; split
  · omega
  · have e2 := Y4 (n := a + n - 1) (by omega) (by omega)
    simp only [List.length_append, List.length_singleton]; omega
theorem cspan_spec (L : Laid w0.w) {a n : Int} (h0 : 0 ≤ a) (h1 : a ≤ 2147483647) (h2 : 0 ≤ n) (h3 : n ≤ 2147483647) (hR : R (.pv (.str (spanC a n))) σ) : A1 (cx w0) L8.id [.pv (.int .i64 a), .pv (.int .i64 n)] σ R := by
  refine A1.alone L rfl (fun w1 L1 => ?_) rfl hR
  have e1 := Y4 (n := a) h0 (by omega)
  refine L8.calls ?_
  rw [L8.b0_eq, A7]
  refine B8 (fun g => ?_) (fun g => ?_)
  · refine W3 L1 (by omega) (by omega) (I0 (C5 (Nat.zero_le _) ?_))
    rw [spanC, if_pos g]
  · have e2 := Y4 (n := a + n - 1) (by omega) (by omega)
    refine W3 L1 (by omega) (by omega) (I0 ⟨by simp only [List.length_singleton]; omega, ?_⟩)
    rw [G3 (n := a + n) (by omega) (by omega), G3 (by omega) (by omega)]
    refine W3 L1 (by omega) (by omega) (I0 ⟨by simp only [List.length_append, List.length_singleton]; omega, C5 (Nat.zero_le _) ?_⟩)
    rw [spanC, if_neg g]
theorem rows_sized' : ∀ l : List Row, sized 2 (l.map rowP) = true := by
  intro l
  simp only [sized, List.all_eq_true, List.mem_map]
  rintro x ⟨r, _, rfl⟩
  rfl
theorem slice_rows {l : List Row} {k : Nat} (h : k ≤ l.length) : I1 σ tabS ti37.td (.pv (rowsP l)) (some (.pv (.int .i64 (k : Int)))) none = some (.pv (rowsP (l.drop k))) := by
  show (if (0 : Int) ≤ (k : Int) ∧ (k : Int) ≤ (((l.map rowP).length : Nat) : Int) ∧ (((l.map rowP).length : Nat) : Int) ≤ (((l.map rowP).length : Nat) : Int) then (if sized 2 (l.map rowP) = true then some (AV.pv (.sl (((l.map rowP).take (((l.map rowP).length : Nat) : Int).toNat).drop (k : Int).toNat))) else none) else none) = _
  rw [if_pos (by rw [List.length_map]; omega), if_pos (rows_sized' l)]
  simp [List.take_of_length_le]
theorem slice_rows2 {l : List Row} {k m : Nat} (h : k ≤ m) (hm : m ≤ l.length) : I1 σ tabS ti37.td (.pv (rowsP l)) (some (.pv (.int .i64 (k : Int)))) (some (.pv (.int .i64 (m : Int)))) = some (.pv (rowsP ((l.take m).drop k))) := by
  show (if (0 : Int) ≤ (k : Int) ∧ (k : Int) ≤ (m : Int) ∧ (m : Int) ≤ (((l.map rowP).length : Nat) : Int) then (if sized 2 (l.map rowP) = true then some (AV.pv (.sl (((l.map rowP).take (m : Int).toNat).drop (k : Int).toNat))) else none) else none) = _
  rw [if_pos (by rw [List.length_map]; omega), if_pos (rows_sized' l)]
  simp
abbrev runA (n : Nat) (o f : Bool) : AV := .tup [.pv (.int .i64 (n : Int)), .pv (.bool o), .pv (.bool f)]
theorem run_loop (l : List Row) (hl : l.length ≤ 1048576) (v : AV) : ∀ (r : List Row) (k : Nat) (o f : Bool), l.drop k = r → v = runA (k + runN r) (o || K6 2 r) (f || K6 3 r) →
    D4.n4 (D4.X w0 0) w0 0 (fun r' _ => r' = v) [] (.pv (rowsP l)) (k : Int) o f := by
  intro r
  induction r with
  | nil =>
    intro k o f hd hv
    have hk := M0 hd
    refine D4.n4_in ?_
    rw [D4.b5_eq]
    repeat ((with_reducible first | apply A0 | apply wI | apply wT | apply wP | apply wS | apply wB); exact rfl)
    rw [A7, if_neg (by rw [List.length_map]; omega)]
    generalize hb : false = b
    refine D4.n8_in ?_
    rw [D4.b8_eq, ← hb, I5]
    refine D4.n17_in ?_
    rw [D4.b17_eq]
    refine C5 (Nat.zero_le _) ?_
    rw [hv]; simp [runN, K6]
  | cons c r ih =>
    intro k o f hd hv
    obtain ⟨h1, h2, hk⟩ := H4 hd
    have hg : (l.map rowP)[k]? = some (rowP c) := by rw [List.getElem?_map, h1]; rfl
    have idx : ∀ σ, B6 σ tabS ti37.td (.pv (rowsP l)) (k : Int) = some (.ro (rowP c) 0) := fun σ => K7 tab51 hg rfl
    refine D4.n4_in ?_
    rw [D4.b5_eq]
    repeat ((with_reducible first | apply A0 | apply wI | apply wT | apply wP | apply wS | apply wB); exact rfl)
    rw [A7, if_pos (by rw [List.length_map]; omega)]
    refine A0 (idx _) ?_
    repeat ((with_reducible first | apply A0 | apply wI | apply wT | apply wP | apply wS | apply wB); exact rfl)
    have key : ∀ t, t = (c.k != 1) → D4.n8 (D4.X w0 0) w0 0 (fun r' _ => r' = v) [] (.pv (rowsP l)) (k : Int) o f t := by
      intro t ht
      refine D4.n8_in ?_
      rw [D4.b8_eq]
      refine A5 (fun g => ?_) (fun g => ?_)
      · have h1 : c.k ≠ 1 := by rw [g] at ht; simpa using ht.symm
        have h16 : ∀ o' f', o' = (o || (c.k == 2)) → f' = (f || (c.k == 3)) → D4.n16 (D4.X w0 0) w0 0 (fun r' _ => r' = v) [] (.pv (rowsP l)) (k : Int) o' f' := by
          rintro o' f' rfl rfl
          refine D4.n16_in ?_
          rw [D4.b16_eq, I3 hk (by omega)]
          refine ih (k + 1) _ _ h2 ?_
          rw [hv, runN, if_neg h1, K6, K6, if_neg h1, if_neg h1, Bool.or_assoc, Bool.or_assoc]
          rw [show k + (runN r + 1) = k + 1 + runN r by omega]
        have h14 : ∀ o', o' = (o || (c.k == 2)) → D4.n14 (D4.X w0 0) w0 0 (fun r' _ => r' = v) [] (.pv (rowsP l)) (k : Int) o' f := by
          intro o' ho
          refine D4.n14_in ?_
          rw [D4.b14_eq]
          refine A5 (fun g2 => ?_) (fun g2 => ?_)
          · generalize hb : true = b
            exact h16 _ b ho (by rw [g2, ← hb]; rfl)
          · refine A0 (idx _) ?_
            repeat ((with_reducible first | apply A0 | apply wI | apply wT | apply wP | apply wS | apply wB); exact rfl)
            exact h16 _ _ ho (by rw [g2]; rfl)
        refine A5 (fun g2 => ?_) (fun g2 => ?_)
        · generalize hb : true = b
          exact h14 b (by rw [g2, ← hb]; rfl)
        · refine A0 (idx _) ?_
          repeat ((with_reducible first | apply A0 | apply wI | apply wT | apply wP | apply wS | apply wB); exact rfl)
          exact h14 _ (by rw [g2]; rfl)
      · have h1 : c.k = 1 := by rw [g] at ht; simpa using ht.symm
        refine D4.n17_in ?_
        rw [D4.b17_eq]
        refine C5 (Nat.zero_le _) ?_
        rw [hv, runN, if_pos h1, K6, K6, if_pos h1, if_pos h1]
        simp
    exact key _ rfl
theorem run_spec (L : Laid w0.w) {l : List Row} (hl : l.length ≤ 1048576) (hR : R (runA (runN l) (K6 2 l) (K6 3 l)) σ) : A1 (cx w0) D4.id [.pv (rowsP l)] σ R := by
  refine A1.alone L rfl (fun w1 L1 => ?_) rfl hR
  refine D4.calls ?_
  rw [D4.b0_eq]
  generalize hb : false = b
  have := run_loop (w0 := w1) l hl (runA (runN l) (K6 2 l) (K6 3 l)) l 0 b b rfl (by rw [← hb]; simp)
  exact this
abbrev mkS (acc : List UInt8) : Store := [.arr 1 (E7 acc) false]
abbrev mkA (acc : List UInt8) : AV := .arr 0 acc.length 0 acc.length
theorem mk_seal (acc : List UInt8) : sealR 0 ([] ++ mkS acc) (mkA acc) = some (.pv (.sl (E7 acc))) := by
  show (if (E7 acc).length = acc.length ∧ 0 + acc.length ≤ acc.length then some (AV.pv (.sl (((E7 acc).drop 0).take acc.length))) else none) = _
  rw [if_pos ⟨N0 acc, by omega⟩, List.drop_zero, List.take_of_length_le (by rw [N0]; omega)]
theorem marks_inner (l : List Row) (hl : l.length ≤ 1048576) (run : List Row) (hrun : run.length ≤ 1048576) (o f : Bool) (acc0 : List UInt8) (ha : acc0.length ≤ 1048576) (v : AV)
    (next : C2.n6 (C2.X w0 0) w0 0 (fun r' _ => r' = v) (mkS (acc0 ++ run.map fun x => markR o f x.k)) (.pv (rowsP l)) (mkA (acc0 ++ run.map fun x => markR o f x.k))) : ∀ (r done : List Row), run = done ++ r →
    C2.n27 (C2.X w0 0) w0 0 (fun r' _ => r' = v) (mkS (acc0 ++ done.map fun x => markR o f x.k)) (.pv (rowsP l)) (mkA (acc0 ++ done.map fun x => markR o f x.k)) o f (.pv (rowsP run)) run.length done.length
  | [], done, h => by
    rw [List.append_nil] at h
    subst h
    refine C2.n27_in ?_
    rw [C2.b28_eq, A7, if_neg (by omega)]
    exact next
  | c :: r, done, h => by
    have hk : (run.map rowP)[done.length]? = some (rowP c) := by rw [h]; simp
    have hlen : run.length = done.length + (r.length + 1) := by rw [h]; simp
    have ih := marks_inner l hl run hrun o f acc0 ha v next r (done ++ [c]) (by rw [h]; simp)
    refine C2.n27_in ?_
    rw [C2.b28_eq, A7, if_pos (by omega)]
    refine A0 (K7 tab51 hk rfl) ?_
    repeat ((with_reducible first | apply A0 | apply wI | apply wT | apply wP | apply wS | apply wB); exact rfl)
    have h48 : ∀ m : UInt8, m = markR o f c.k → C2.n48 (C2.X w0 0) w0 0 (fun r' _ => r' = v) [.arr 1 (E7 ((acc0 ++ done.map fun x => markR o f x.k) ++ [m])) false, .cells 51 [.pv (.int .i64 c.k), .pv (.str c.t)]] (.pv (rowsP l)) (mkA ((acc0 ++ done.map fun x => markR o f x.k) ++ [m])) o f (.pv (rowsP run)) run.length done.length := by
      rintro m rfl
      refine C2.n48_in ?_
      rw [C2.b48_eq, I3 (n := run.length) (by omega) (by omega)]
      refine C2.n27_weak (EWeak.drop (τ := mkS ((acc0 ++ done.map fun x => markR o f x.k) ++ [markR o f c.k])) glob0 (Nat.zero_le _) rfl rfl) ?_
      simp only [List.map_append, List.map_cons, List.map_nil, List.length_append, List.length_singleton, ← List.append_assoc] at ih
      exact ih
    have hal : (acc0 ++ done.map fun x => markR o f x.k).length + 1 ≤ 140737488355328 := by simp only [List.length_append, List.length_map]; omega
    have put : ∀ m : UInt8, I7 [.arr 1 (E7 (acc0 ++ done.map fun x => markR o f x.k)) false, .cells 51 [.pv (.int .i64 c.k), .pv (.str c.t)]] ti5 (mkA (acc0 ++ done.map fun x => markR o f x.k)) (.pv (.sl [.int .u8 m.toNat])) = some (mkA ((acc0 ++ done.map fun x => markR o f x.k) ++ [m]), [.arr 1 (E7 ((acc0 ++ done.map fun x => markR o f x.k) ++ [m])) false, .cells 51 [.pv (.int .i64 c.k), .pv (.str c.t)]]) := fun m => V6 (id := 0) (s := [m]) rfl rfl hal
    have h41 : ∀ t, t = (o && f) → C2.n41 (C2.X w0 0) w0 0 (fun r' _ => r' = v) [.arr 1 (E7 (acc0 ++ done.map fun x => markR o f x.k)) false, .cells 51 [.pv (.int .i64 c.k), .pv (.str c.t)]] (.pv (rowsP l)) (mkA (acc0 ++ done.map fun x => markR o f x.k)) o f (.ptr 1 0) (.pv (rowsP run)) run.length done.length t := by
      intro t ht
      refine C2.n41_in ?_
      rw [C2.b41_eq]
      refine A5 (fun g => ?_) (fun g => ?_)
      · refine G2 (v := .pv (.sl [.int .u8 (33 : UInt8).toNat])) rfl (G2 (put 33) (h48 _ ?_))
        rw [markR, ← ht, if_pos g]
      · repeat ((with_reducible first | apply A0 | apply wI | apply wT | apply wP | apply wS | apply wB); exact rfl)
        rw [G4]
        refine B8 (fun g2 => ?_) (fun g2 => ?_)
        · refine G2 (v := .pv (.sl [.int .u8 (45 : UInt8).toNat])) rfl (G2 (put 45) (h48 _ ?_))
          rw [markR, ← ht, g, if_neg (by decide), if_pos g2]
        · refine G2 (v := .pv (.sl [.int .u8 (43 : UInt8).toNat])) rfl (G2 (put 43) (h48 _ ?_))
          rw [markR, ← ht, g, if_neg (by decide), if_neg g2]
    refine A5 (fun g => ?_) (fun g => ?_)
    · exact h41 _ (by rw [g]; simp)
    · generalize hb : false = b
      exact h41 b (by rw [g, ← hb]; simp)
theorem marks_loop (L : Laid w0.w) (l : List Row) (hl : l.length ≤ 1048576) (v : AV) : ∀ (n : Nat) (acc : List UInt8), (l.drop acc.length).length ≤ n → acc.length ≤ l.length → v = .pv (.sl (E7 (acc ++ H1 n (l.drop acc.length)))) →
    C2.n6 (C2.X w0 0) w0 0 (fun r' _ => r' = v) (mkS acc) (.pv (rowsP l)) (mkA acc) := by
  have stop : ∀ acc : List UInt8, v = .pv (.sl (E7 acc)) → ¬ ((acc.length : Int) < (l.length : Int)) → C2.n6 (C2.X w0 0) w0 0 (fun r' _ => r' = v) (mkS acc) (.pv (rowsP l)) (mkA acc) := by
    intro acc hv hlt
    refine C2.n6_in ?_
    rw [C2.b7_eq]
    repeat ((with_reducible first | apply A0 | apply wI | apply wT | apply wP | apply wS | apply wB); exact rfl)
    rw [A7, if_neg (by rw [List.length_map]; exact hlt)]
    refine C2.n49_in ?_
    rw [C2.b49_eq]
    exact O9 (σ := []) (L := mkS acc) glob0 rfl (mk_seal acc) hv.symm
  intro n
  induction n with
  | zero =>
    intro acc h ha hv
    rw [List.length_drop] at h
    refine stop acc ?_ (by omega)
    rw [hv]; simp [H1]
  | succ n ih =>
    intro acc h ha hv
    cases hd : l.drop acc.length with
    | nil =>
      have hk := M0 hd
      refine stop acc ?_ (by omega)
      rw [hv, hd]; simp [H1]
    | cons c r =>
      obtain ⟨h1, h2, hk⟩ := H4 hd
      rw [hd] at hv h
      refine C2.n6_in ?_
      rw [C2.b7_eq]
      repeat ((with_reducible first | apply A0 | apply wI | apply wT | apply wP | apply wS | apply wB); exact rfl)
      rw [A7, if_pos (by rw [List.length_map]; omega)]
      repeat ((with_reducible first | apply A0 | apply wI | apply wT | apply wP | apply wS | apply wB); exact rfl)
      refine A0 (slice_rows ha) ?_
      rw [hd]
      have hcl : (c :: r).length ≤ 1048576 := by
        have := congrArg List.length hd
        rw [List.length_drop] at this
        omega
      refine run_spec L hcl ?_
      have hN := runN_le (c :: r)
      have hdl : (l.drop acc.length).length = (c :: r).length := by rw [hd]
      rw [List.length_drop] at hdl
      repeat ((with_reducible first | apply A0 | apply wI | apply wT | apply wP | apply wS | apply wB); exact rfl)
      rw [G4]
      by_cases g : c.k = 1
      · have e0 : runN (c :: r) = 0 := by rw [runN, if_pos g]
        rw [if_pos (by rw [e0]; rfl)]
        refine G2 (v := .pv (.sl [.int .u8 (32 : UInt8).toNat])) rfl ?_
        refine G2 (V6 (id := 0) (acc := acc) (s := [32]) rfl rfl (by simp only [List.length_singleton]; omega)) ?_
        have e : l.drop (acc ++ [32]).length = r := by rw [List.length_append]; exact h2
        refine ih (acc ++ [32]) (by rw [e]; simp only [List.length_cons] at h; omega) (by rw [List.length_append, List.length_singleton]; omega) ?_
        rw [e, hv, H1, if_pos g, List.append_assoc]; rfl
      · have hpos : 0 < runN (c :: r) := by rw [runN, if_neg g]; omega
        rw [if_neg (by omega)]
        repeat ((with_reducible first | apply A0 | apply wI | apply wT | apply wP | apply wS | apply wB); exact rfl)
        rw [G3 (by omega) (by omega), show (acc.length : Int) + (runN (c :: r) : Int) = ((acc.length + runN (c :: r) : Nat) : Int) by omega]
        refine A0 (slice_rows2 (by omega) (by omega)) ?_
        have er : (l.take (acc.length + runN (c :: r))).drop acc.length = (c :: r).take (runN (c :: r)) := by
          rw [← hd, List.drop_take, show acc.length + runN (List.drop acc.length l) - acc.length = runN (List.drop acc.length l) by omega]
        rw [er]
        repeat ((with_reducible first | apply A0 | apply wI | apply wT | apply wP | apply wS | apply wB); exact rfl)
        rw [List.length_map]
        have hrl : ((c :: r).take (runN (c :: r))).length = runN (c :: r) := by rw [List.length_take]; omega
        have hal : (acc ++ ((c :: r).take (runN (c :: r))).map fun x => markR (K6 2 (c :: r)) (K6 3 (c :: r)) x.k).length = acc.length + runN (c :: r) := by rw [List.length_append, List.length_map, hrl]
        have e : l.drop (acc ++ ((c :: r).take (runN (c :: r))).map fun x => markR (K6 2 (c :: r)) (K6 3 (c :: r)) x.k).length = (c :: r).drop (runN (c :: r)) := by rw [hal, ← List.drop_drop, hd]
        have nx := ih (acc ++ ((c :: r).take (runN (c :: r))).map fun x => markR (K6 2 (c :: r)) (K6 3 (c :: r)) x.k) (by rw [e, List.length_drop]; omega) (by omega) (by rw [e, hv, H1, if_neg g, List.append_assoc])
        have := marks_inner l hl ((c :: r).take (runN (c :: r))) (by omega) (K6 2 (c :: r)) (K6 3 (c :: r)) acc (by omega) v nx ((c :: r).take (runN (c :: r))) [] rfl
        simp only [List.map_nil, List.append_nil, List.length_nil] at this
        exact this
theorem make_bytes {σ : Store} {n : Nat} (h : n ≤ 140737488355328) : T4 σ ti5 0 (n : Int) = some (.arr σ.length 0 0 0, σ ++ [.arr 1 [] false]) := by
  have hr : (0 : Int) ≤ 0 ∧ (0 : Int) ≤ (n : Int) ∧ roomy (n : Int).toNat ti5.bytes ∧ (PV.int .u8 0).cells.length = ti5.size := ⟨by omega, by omega, ⟨by rw [Int.toNat_natCast]; exact h, by rw [Int.toNat_natCast]; show n * 1 ≤ _; omega⟩, rfl⟩
  show (if (0 : Int) ≤ 0 ∧ (0 : Int) ≤ (n : Int) ∧ roomy (n : Int).toNat ti5.bytes ∧ (PV.int .u8 0).cells.length = ti5.size then some (AV.arr σ.length (0 : Int).toNat 0 (0 : Int).toNat, σ ++ [SObj.arr ti5.size (List.replicate (0 : Int).toNat (PV.int .u8 0)) false]) else none) = _
  rw [if_pos hr]
  rfl
theorem marks_spec (L : Laid w0.w) {l : List Row} (hl : l.length ≤ 1048576) (hR : R (.pv (.sl (E7 (H1 l.length l)))) σ) : A1 (cx w0) C2.id [.pv (rowsP l)] σ R := by
  refine A1.alone L rfl (fun w1 L1 => ?_) rfl hR
  refine C2.calls ?_
  rw [C2.b0_eq]
  repeat ((with_reducible first | apply A0 | apply wI | apply wT | apply wP | apply wS | apply wB); exact rfl)
  exact G2 (make_bytes (by rw [List.length_map]; omega)) (marks_loop L1 l hl _ l.length [] (Nat.le_refl _) (Nat.zero_le _) rfl)
end
end Go.Sv
end
section
namespace Go.Sv
section
open Go Go.RowKit Go.Proofs
theorem flat_hunks_len : ∀ l : List Hnk, (∀ h ∈ l, HnkOK h) → l.all H0 = true → (l.flatMap hunkF).length ≤ 150 * pvBs (l.map hnkP)
  | [], _, _ => by simp
  | h :: l, ok, hv => by
    rw [List.all_cons, Bool.and_eq_true] at hv
    have ih := flat_hunks_len l (fun x hx => ok x (List.mem_cons_of_mem _ hx)) hv.2
    have := hunkF_len hv.1 (ok h (by simp))
    simp only [List.flatMap_cons, List.length_append, List.map_cons]
    rw [pvBs]
    omega
variable {w0 : Base} {σ : Store} {R : AV → Store → Prop}
abbrev nmS (p s p' s' : List UInt8) : Store := [.cells 23 [.pv (.str p), .pv (.str s)], .cells 23 [.pv (.str p'), .pv (.str s')]]
abbrev prS (p s p' s' acc : List UInt8) : Store := [.cells 23 [.pv (.str p), .pv (.str s)], .cells 23 [.pv (.str p'), .pv (.str s')], .bld tyB 5 acc]
def errA (n : Int) : AV := if n = 0 then .pv (.raw .nilIface) else .pv (.iface 63 (.int .i64 n))
def T2 (p s p' s' : List UInt8) (l : List Hnk) : AV := .tup [.pv (.str (if O8 p s p' s' l = 0 then printF p s p' s' l else [])), errA (O8 p s p' s' l)]
theorem uv_loop (L : Laid w0.w) (p s p' s' x y : List UInt8) (xs : List PV) (hx : xs.length ≤ 1048576) (v : AV) : ∀ (r : List Hnk) (k : Nat), xs.drop k = r.map hnkP → (∀ h ∈ r, HnkOK h) → (r.all H0 = false → v = .tup [.pv (.str []), errA 100]) →
    (r.all H0 = true → B1.n37 (B1.X w0 0) w0 0 (fun r' _ => r' = v) (nmS p s p' s') (.pv (.sl xs)) x y) →
    B1.n18 (B1.X w0 0) w0 0 (fun r' _ => r' = v) (nmS p s p' s') (.pv (.sl xs)) x y (.pv (.sl xs)) xs.length k
  | [], k, hd, _, _, hn => by
    have hk := M0 hd
    refine B1.n18_in ?_
    rw [B1.b19_eq, A7, if_neg (by omega)]
    exact hn rfl
  | h :: r, k, hd, ht, hb, hn => by
    obtain ⟨h1, h2, hk⟩ := H4 hd
    have ok := ht h (by simp)
    refine B1.n18_in ?_
    rw [B1.b19_eq, A7, if_pos (by omega)]
    refine A0 (K7 tab39 h1 rfl) ?_
    repeat ((with_reducible first | apply A0 | apply wI | apply wT | apply wP | apply wS | apply wB); exact rfl)
    refine Valid_spec L (Nat.le_trans ok.rows (by decide)) (fun x hx => Nat.le_trans (ok.text x hx) (by decide)) (Nat.le_trans ok.head (by decide)) ok.a ok.b ?_
    cases hv : H0 h with
    | false =>
      rw [vErr, if_neg (by decide), Q3]
      refine A0 rfl (A0 (v := false) rfl (F5 ?_))
      refine A5 (fun _ => ?_) (fun h => absurd h (by decide))
      repeat ((with_reducible first | apply A0 | apply wI | apply wT | apply wP | apply wS | apply wB); exact rfl)
      refine C5 (Nat.zero_le _) ?_
      rw [hb (by rw [List.all_cons, hv, Bool.false_and])]; rfl
    | true =>
      rw [vErr, if_pos rfl, Q3]
      refine A0 rfl (A0 (v := true) rfl (F5 ?_))
      refine A5 (fun h => absurd h (by decide)) (fun _ => ?_)
      rw [I3 hk (by omega)]
      refine B1.n18_weak (EWeak.drop (τ := nmS p s p' s') glob0 (Nat.zero_le _) rfl rfl) ?_
      exact uv_loop L p s p' s' x y xs hx v r (k + 1) h2 (fun x hx => ht x (List.mem_cons_of_mem _ hx)) (fun e => hb (by rw [List.all_cons, hv, Bool.true_and, e])) (fun e => hn (by rw [List.all_cons, hv, Bool.true_and, e]))
theorem uo_loop (L : Laid w0.w) (p s p' s' x y : List UInt8) (xs : List PV) (hx : xs.length ≤ 1048576) (v : AV) : ∀ (r : List Hnk) (g : Hnk) (k : Nat), xs.drop k = (g :: r).map hnkP → (inOrd (g :: r) = false → v = .tup [.pv (.str []), errA 112]) →
    (inOrd (g :: r) = true → B1.n58 (B1.X w0 0) w0 0 (fun r' _ => r' = v) (nmS p s p' s') (.pv (.sl xs)) x y) →
    B1.n41 (B1.X w0 0) w0 0 (fun r' _ => r' = v) (nmS p s p' s') (.pv (.sl xs)) x y ((k + 1 : Nat) : Int)
  | [], g, k, hd, _, hn => by
    obtain ⟨h1, h2, hk⟩ := H4 hd
    have hk2 := M0 h2
    refine B1.n41_in ?_
    rw [B1.b42_eq]
    repeat ((with_reducible first | apply A0 | apply wI | apply wT | apply wP | apply wS | apply wB); exact rfl)
    rw [A7, if_neg (by omega)]
    exact hn rfl
  | h :: r, g, k, hd, hb, hn => by
    obtain ⟨h1, h2, hk⟩ := H4 hd
    obtain ⟨h3, h4, hk2⟩ := H4 h2
    have e : IntKind.wrap .i64 (((k + 1 : Nat) : Int) - 1) = (k : Int) := by rw [G3 (by omega) (by omega)]; omega
    refine B1.n41_in ?_
    rw [B1.b42_eq]
    repeat ((with_reducible first | apply A0 | apply wI | apply wT | apply wP | apply wS | apply wB); exact rfl)
    rw [A7, if_pos (by omega), e]
    refine A0 (K7 tab39 h1 rfl) ?_
    repeat ((with_reducible first | apply A0 | apply wI | apply wT | apply wP | apply wS | apply wB); exact rfl)
    refine A0 (K7 tab39 h3 rfl) ?_
    repeat ((with_reducible first | apply A0 | apply wI | apply wT | apply wP | apply wS | apply wB); exact rfl)
    refine follows_spec L (g := g) (h := h) (F5 ?_)
    rw [E3]
    refine A5 (fun gg => ?_) (fun gg => ?_)
    · rw [I3 hk2 (by omega)]
      exact uo_loop L p s p' s' x y xs hx v r h (k + 1) h2 (fun e => hb (by rw [inOrd, gg, e]; rfl)) (fun e => hn (by rw [inOrd, gg, e]; rfl))
    · repeat ((with_reducible first | apply A0 | apply wI | apply wT | apply wP | apply wS | apply wB); exact rfl)
      refine C5 (Nat.zero_le _) ?_
      rw [hb (by rw [inOrd, gg]; rfl)]; rfl
theorem up_loop (L : Laid w0.w) (p s p' s' : List UInt8) (xs : List PV) (hx : xs.length ≤ 1048576) (v : AV) : ∀ (r : List Hnk) (k : Nat) (acc : List UInt8), xs.drop k = r.map hnkP → (∀ h ∈ r, HnkOK h) → (∀ h ∈ r, pvB (hnkP h) ≤ 8388608) → r.all H0 = true →
    acc.length + (r.flatMap hunkF).length ≤ 140737488355328 → v = .tup [.pv (.str (acc ++ r.flatMap hunkF)), .pv (.raw .nilIface)] →
    B1.n66 (B1.X w0 0) w0 0 (fun r' _ => r' = v) (prS p s p' s' acc) (.ptr 2 0) (.pv (.sl xs)) xs.length k
  | [], k, acc, hd, _, _, _, _, hv => by
    have hk := M0 hd
    refine B1.n66_in ?_
    rw [B1.b67_eq, A7, if_neg (by omega)]
    refine B1.n89_in ?_
    rw [B1.b89_eq]
    refine V2 rfl (I0 (C5 (Nat.zero_le _) ?_))
    rw [hv]; simp
  | h :: r, k, acc, hd, ht, hB, ha, hl, hv => by
    obtain ⟨h1, h2, hk⟩ := H4 hd
    have ok := ht h (by simp)
    rw [List.all_cons, Bool.and_eq_true] at ha
    simp only [List.flatMap_cons, List.length_append] at hl
    refine B1.n66_in ?_
    rw [B1.b67_eq, A7, if_pos (by omega)]
    refine A0 (K7 tab39 h1 rfl) ?_
    repeat ((with_reducible first | apply A0 | apply wI | apply wT | apply wP | apply wS | apply wB); exact rfl)
    refine Hunk_spec L ok (hB h (by simp)) ?_
    unfold hunkOut
    rw [if_pos ha.1, ha.1, vErr, if_pos rfl]
    repeat ((with_reducible first | apply A0 | apply wI | apply wT | apply wP | apply wS | apply wB); exact rfl)
    rw [Q3]
    refine A0 rfl (A0 (v := true) rfl (F5 ?_))
    refine A5 (fun h => absurd h (by decide)) (fun _ => ?_)
    refine E8 (id := 2) rfl (by omega) ?_
    rw [I3 hk (by omega)]
    refine B1.n66_weak (EWeak.drop (τ := prS p s p' s' (acc ++ hunkF h)) glob0 (Nat.zero_le _) rfl rfl) ?_
    exact up_loop L p s p' s' xs hx v r (k + 1) (acc ++ hunkF h) h2 (fun x hx => ht x (List.mem_cons_of_mem _ hx)) (fun x hx => hB x (List.mem_cons_of_mem _ hx)) ha.2 (by simp only [List.length_append]; omega) (by rw [hv, List.flatMap_cons, List.append_assoc])
theorem printOut_under (p s p' s' : List UInt8) (l : List Hnk) : AV.under 0 (T2 p s p' s' l) = true := by unfold T2 errA; split <;> rfl
structure PrOK (p s p' s' : List UInt8) (l : List Hnk) : Prop where
  p : p.length ≤ 1048576
  s : s.length ≤ 1048576
  p' : p'.length ≤ 1048576
  s' : s'.length ≤ 1048576
  len : l.length ≤ 1048576
  ok : ∀ h ∈ l, HnkOK h
  bulk : pvBs (l.map hnkP) ≤ 8388608
theorem PrOK.one {p s p' s' : List UInt8} {l : List Hnk} (o : PrOK p s p' s' l) : ∀ h ∈ l, pvB (hnkP h) ≤ 8388608 := fun h hh => Nat.le_trans (pvBs_mem _ _ (List.mem_map_of_mem (f := hnkP) hh)) o.bulk
theorem Print_spec (L : Laid w0.w) {p s p' s' : List UInt8} {l : List Hnk} (o : PrOK p s p' s' l) (hR : R (T2 p s p' s' l) σ) : A1 (cx w0) B1.id [.pv (nmP p s), .pv (nmP p' s'), hnksA l] σ R := by
  refine A1.alone L rfl (fun w1 L1 => ?_) (printOut_under p s p' s' l) hR
  have q1 := shownF_len (p := p) (s := s)
  have q2 := shownF_len (p := p') (s := s')
  have o1 := o.p
  have o2 := o.s
  have o3 := o.p'
  have o4 := o.s'
  have hx : (l.map hnkP).length ≤ 1048576 := by rw [List.length_map]; exact o.len
  have fin : ∀ t, t = !(L2 p s && L2 p' s') → B1.n9 (B1.X w1 0) w1 0 (fun r' _ => r' = T2 p s p' s' l) (nmS p s p' s') (hnksA l) (if L2 p s = true then J5 p s else []) (if L2 p' s' = true then J5 p' s' else []) t := by
    rintro t rfl
    refine B1.n9_in ?_
    rw [B1.b9_eq, E3]
    refine A5 (fun g => ?_) (fun g => ?_)
    · rw [Bool.and_eq_true] at g
      rw [if_pos g.1, if_pos g.2]
      repeat ((with_reducible first | apply A0 | apply wI | apply wT | apply wP | apply wS | apply wB); exact rfl)
      refine uv_loop L1 p s p' s' _ _ (l.map hnkP) hx _ l 0 rfl o.ok (fun e => ?_) (fun e => ?_)
      · have : O8 p s p' s' l = 100 := by simp [O8, g.1, g.2, e]
        simp [T2, this]
      refine B1.n37_in ?_
      rw [B1.b37_eq]
      have last : inOrd l = true → B1.n58 (B1.X w1 0) w1 0 (fun r' _ => r' = T2 p s p' s' l) (nmS p s p' s') (hnksA l) (J5 p s) (J5 p' s') := by
        intro e2
        have hf : O8 p s p' s' l = 0 := by simp [O8, g.1, g.2, e, e2]
        have fl := flat_hunks_len l o.ok e
        have ob := o.bulk
        refine B1.n58_in ?_
        rw [B1.b58_eq]
        refine ⟨by simp only [List.length_cons, List.length_nil]; omega, by simp only [List.length_append, List.length_cons, List.length_nil]; omega, by simp only [List.length_append, List.length_cons, List.length_nil]; omega, by simp only [List.length_append, List.length_cons, List.length_nil]; omega, ?_⟩
        refine E8 (id := 2) rfl (by simp only [List.length_append, List.length_cons, List.length_nil]; omega) ?_
        repeat ((with_reducible first | apply A0 | apply wI | apply wT | apply wP | apply wS | apply wB); exact rfl)
        rw [List.nil_append]
        refine up_loop L1 p s p' s' (l.map hnkP) hx _ l 0 _ rfl o.ok o.one e (by simp only [List.length_append, List.length_cons, List.length_nil]; omega) ?_
        unfold T2
        rw [hf, if_pos rfl, errA, if_pos rfl]; rfl
      match l, last with
      | [], last =>
        refine B1.n41_in ?_
        rw [B1.b42_eq]
        repeat ((with_reducible first | apply A0 | apply wI | apply wT | apply wP | apply wS | apply wB); exact rfl)
        rw [A7, if_neg (by decide)]
        exact last rfl
      | g0 :: r, last =>
        have := uo_loop L1 p s p' s' (J5 p s) (J5 p' s') ((g0 :: r).map hnkP) hx (T2 p s p' s' (g0 :: r)) r g0 0 rfl (fun e2 => by
          have : O8 p s p' s' (g0 :: r) = 112 := by simp [O8, g.1, g.2, e2]; simpa using e
          simp [T2, this]) last
        exact this
    · repeat ((with_reducible first | apply A0 | apply wI | apply wT | apply wP | apply wS | apply wB); exact rfl)
      refine C5 (Nat.zero_le _) ?_
      have : O8 p s p' s' l = 110 := by simp [O8, g]
      simp [T2, this]; rfl
  refine B1.calls ?_
  rw [B1.b0_eq]
  refine ⟨rfl, rfl, ?_⟩
  repeat ((with_reducible first | apply A0 | apply wI | apply wT | apply wP | apply wS | apply wB); exact rfl)
  refine header_spec L1 o.p o.s ?_
  repeat ((with_reducible first | apply A0 | apply wI | apply wT | apply wP | apply wS | apply wB); exact rfl)
  refine header_spec L1 o.p' o.s' ?_
  repeat ((with_reducible first | apply A0 | apply wI | apply wT | apply wP | apply wS | apply wB); exact rfl)
  rw [E3]
  refine A5 (fun g => fin _ ?_) (fun g => fin _ ?_)
  · rw [g]; rfl
  · rw [g]; rfl
end
end Go.Sv
end
section
namespace Go.Sv
section
open Go Go.RowKit Go.Proofs
variable {w0 : Base} {σ : Store} {R : AV → Store → Prop}
theorem partL_len (kd : Int) : ∀ (l : List Row) (m : List UInt8), (partL kd l m).length ≤ 33 * pvBs (l.map rowP)
  | [], m => by simp [partL]
  | r :: l, [] => by simp [partL]
  | r :: l, c :: m => by
    have ih := partL_len kd l m
    have ht : (tailF r.t).length ≤ r.t.length + 29 := by
      unfold tailF; split
      · omega
      · simp only [List.length_append, List.length_cons, List.length_nil, missS]; omega
    simp only [List.map_cons, pvBs, pvB, partL, List.length_append]
    split
    · simp only [List.length_cons]; omega
    · simp only [List.length_nil]; omega
theorem partF_len (kd : Int) (l : List Row) (m : List UInt8) : (partF kd l m).length ≤ 33 * pvBs (l.map rowP) := by
  have := partL_len kd l m
  unfold partF; split
  · exact this
  · simp
abbrev ptS (C : Hnk) (acc : List UInt8) : Store := [.cells 39 (hnkC C), .bld tyB 5 acc]
theorem any_loop {C : Hnk} {acc m : List UInt8} (l : List Row) (hl : l.length ≤ 1048576) (kd : Int) (next : B9.n19 (B9.X w0 2) w0 2 R (ptS C acc) (.ptr 1 0) (.pv (rowsP l)) (.pv (.sl (E7 m))) kd (anyK kd l)) : ∀ (r : List Row) (k : Nat) (a : Bool), l.drop k = r → (a || anyK kd r) = anyK kd l →
    B9.n6 (B9.X w0 2) w0 2 R (ptS C acc) (.ptr 1 0) (.pv (rowsP l)) (.pv (.sl (E7 m))) kd a (.pv (rowsP l)) l.length k
  | [], k, a, hd, ha => by
    have hk := M0 hd
    refine B9.n6_in ?_
    rw [B9.b7_eq, A7, if_neg (by omega)]
    have : a = anyK kd l := by rw [← ha]; simp [anyK]
    rw [this]; exact next
  | c :: r, k, a, hd, ha => by
    obtain ⟨h1, h2, hk⟩ := H4 hd
    have hg : (l.map rowP)[k]? = some (rowP c) := by rw [List.getElem?_map, h1]; rfl
    have h18 : ∀ a', (a' || anyK kd r) = anyK kd l → B9.n18 (B9.X w0 2) w0 2 R (ptS C acc ++ [.cells 51 [.pv (.int .i64 c.k), .pv (.str c.t)]]) (.ptr 1 0) (.pv (rowsP l)) (.pv (.sl (E7 m))) kd a' (.pv (rowsP l)) l.length k := by
      intro a' ha'
      refine B9.n18_in ?_
      rw [B9.b18_eq, I3 hk (by omega)]
      refine B9.n6_weak (EWeak.drop (τ := ptS C acc) glob0 (Nat.le_of_ble_eq_true rfl) rfl rfl) ?_
      exact any_loop l hl kd next r (k + 1) a' h2 ha'
    refine B9.n6_in ?_
    rw [B9.b7_eq, A7, if_pos (by omega)]
    refine A0 (K7 tab51 hg rfl) ?_
    repeat ((with_reducible first | apply A0 | apply wI | apply wT | apply wP | apply wS | apply wB); exact rfl)
    refine A5 (fun g => ?_) (fun g => ?_)
    · generalize hb : true = b
      refine h18 b ?_
      rw [← ha, g, ← hb]; simp
    · repeat ((with_reducible first | apply A0 | apply wI | apply wT | apply wP | apply wS | apply wB); exact rfl)
      refine h18 _ ?_
      rw [← ha, g]; simp [anyK]
theorem put_loop {C : Hnk} (l : List Row) (hl : l.length ≤ 1048576) (ht : ∀ x ∈ l, x.t.length ≤ 1048576) (kd : Int) (any : Bool) (m : List UInt8) (hm : m.length = l.length) : ∀ (r : List Row) (k : Nat) (acc : List UInt8), l.drop k = r →
    acc.length + (partL kd r (m.drop k)).length ≤ 140737488355328 → R (.tup []) (ptS C (acc ++ if any = true then partL kd r (m.drop k) else [])) →
    B9.n22 (B9.X w0 2) w0 2 R (ptS C acc) (.ptr 1 0) (.pv (.sl (E7 m))) kd any (.pv (rowsP l)) l.length k
  | [], k, acc, hd, _, hR => by
    have hk := M0 hd
    refine B9.n22_in ?_
    rw [B9.b23_eq, A7, if_neg (by omega)]
    refine C5 (Nat.le_of_ble_eq_true rfl) ?_
    have e : partL kd [] (m.drop k) = [] := by cases m.drop k <;> rfl
    rw [e] at hR; simpa using hR
  | c :: r, k, acc, hd, hB, hR => by
    obtain ⟨h1, h2, hk⟩ := H4 hd
    have hg : (l.map rowP)[k]? = some (rowP c) := by rw [List.getElem?_map, h1]; rfl
    have hc := ht c (List.mem_of_getElem? h1)
    obtain ⟨b, hmb⟩ : ∃ b, m[k]? = some b := ⟨m[k]'(by omega), List.getElem?_eq_getElem (by omega)⟩
    have hmg : (E7 m)[k]? = some (.int .u8 b.toNat) := by unfold E7; rw [List.getElem?_map, hmb]; rfl
    have hmd : m.drop k = b :: m.drop (k + 1) := drop_consx hmb
    rw [hmd, partL] at hB hR
    have h48 : ∀ acc', acc'.length + (partL kd r (m.drop (k + 1))).length ≤ 140737488355328 → R (.tup []) (ptS C (acc' ++ if any = true then partL kd r (m.drop (k + 1)) else [])) → B9.n48 (B9.X w0 2) w0 2 R (ptS C acc' ++ [.cells 51 [.pv (.int .i64 c.k), .pv (.str c.t)]]) (.ptr 1 0) (.pv (.sl (E7 m))) kd any (.pv (rowsP l)) l.length k := by
      intro acc' hB' hR'
      refine B9.n48_in ?_
      rw [B9.b48_eq, I3 hk (by omega)]
      refine B9.n22_weak (EWeak.drop (τ := ptS C acc') glob0 (Nat.le_of_ble_eq_true rfl) rfl rfl) ?_
      exact put_loop l hl ht kd any m hm r (k + 1) acc' h2 hB' hR'
    have h36 : ∀ t, t = !(any && decide (c.k = 1 ∨ c.k = kd)) → B9.n36 (B9.X w0 2) w0 2 R (ptS C acc ++ [.cells 51 [.pv (.int .i64 c.k), .pv (.str c.t)]]) (.ptr 1 0) (.pv (.sl (E7 m))) kd any (k : Int) (.ptr 2 0) (.pv (rowsP l)) l.length k t := by
      intro t htt
      refine B9.n36_in ?_
      rw [B9.b36_eq]
      refine A5 (fun g => ?_) (fun g => ?_)
      · refine h48 acc ?_ ?_
        · simp only [List.length_append] at hB; omega
        · rw [g] at htt
          cases ha : any with
          | false => rw [ha] at hR; exact hR
          | true =>
            rw [ha, Bool.true_and] at htt
            have : ¬ (c.k = 1 ∨ c.k = kd) := by simpa using htt
            rw [ha, if_pos rfl, if_neg this, List.nil_append] at hR
            simpa using hR
      · rw [g] at htt
        have h3 : any = true ∧ (c.k = 1 ∨ c.k = kd) := by
          have h4 : (any && decide (c.k = 1 ∨ c.k = kd)) = true := by
            cases hh : (any && decide (c.k = 1 ∨ c.k = kd)) with
            | true => rfl
            | false => rw [hh] at htt; cases htt
          rw [Bool.and_eq_true, decide_eq_true_eq] at h4
          exact h4
        rw [if_pos h3.2] at hB hR
        rw [h3.1, if_pos rfl] at hR
        simp only [List.length_append, List.length_cons] at hB
        have hlt : (tailF c.t).length = if K4 c.t = true then c.t.length else c.t.length + 29 := by
          unfold tailF; split
          · rfl
          · simp only [List.length_append, List.length_cons, List.length_nil, missS]
        refine A0 (K7 tab5 hmg rfl) ?_
        repeat ((with_reducible first | apply A0 | apply wI | apply wT | apply wP | apply wS | apply wB); exact rfl)
        refine Q2 (id := 1) rfl (by omega) ?_
        repeat ((with_reducible first | apply A0 | apply wI | apply wT | apply wP | apply wS | apply wB); exact rfl)
        refine ⟨by simp only [List.length_singleton]; omega, ?_⟩
        refine E8 (id := 1) rfl (by simp only [List.length_append, List.length_singleton]; split at hlt <;> omega) ?_
        repeat ((with_reducible first | apply A0 | apply wI | apply wT | apply wP | apply wS | apply wB); exact rfl)
        refine whole_spec (by omega) (F5 ?_)
        rw [E3]
        refine A5 (fun g2 => ?_) (fun g2 => ?_)
        · rw [if_pos g2] at hlt
          have et : tailF c.t = c.t := by unfold tailF; rw [if_pos g2]
          refine h48 ((acc ++ [b]) ++ ([32] ++ c.t)) (by simp only [List.length_append, List.length_singleton]; omega) ?_
          rw [h3.1, if_pos rfl]
          rw [et] at hR
          simpa using hR
        · rw [if_neg (by rw [g2]; decide)] at hlt
          have et : tailF c.t = (c.t ++ [10]) ++ missS := by unfold tailF; rw [if_neg (by rw [g2]; decide)]
          refine E8 (id := 1) rfl (by simp only [List.length_append, List.length_cons, List.length_nil]; omega) ?_
          refine h48 (((acc ++ [b]) ++ ([32] ++ c.t)) ++ (10 :: missS)) (by simp only [List.length_append, List.length_cons, List.length_nil, missS]; omega) ?_
          rw [h3.1, if_pos rfl]
          rw [et] at hR
          simpa using hR
    refine B9.n22_in ?_
    rw [B9.b23_eq, A7, if_pos (by omega)]
    refine A0 (K7 tab51 hg rfl) ?_
    repeat ((with_reducible first | apply A0 | apply wI | apply wT | apply wP | apply wS | apply wB); exact rfl)
    rw [E3]
    refine A5 (fun g => ?_) (fun g => ?_)
    · repeat ((with_reducible first | apply A0 | apply wI | apply wT | apply wP | apply wS | apply wB); exact rfl)
      rw [M1]
      refine B8 (fun g2 => ?_) (fun g2 => ?_)
      · generalize hb : false = b'
        refine h36 b' ?_
        rw [← hb, g, decide_eq_true (.inl g2)]; rfl
      · repeat ((with_reducible first | apply A0 | apply wI | apply wT | apply wP | apply wS | apply wB); exact rfl)
        refine h36 _ ?_
        rw [g, Bool.true_and]
        have : (c.k = 1 ∨ c.k = kd) ↔ c.k = kd := ⟨fun e => e.resolve_left g2, .inr⟩
        rw [decide_eq_decide.2 this]
        cases he : decide (c.k = kd) with
        | true => have := of_decide_eq_true he; simp [this]
        | false => have := of_decide_eq_false he; simp [this]
    · generalize hb : true = b'
      refine h36 b' ?_
      rw [← hb, g]; rfl
theorem part_spec {C : Hnk} {l : List Row} {kd : Int} {m acc : List UInt8} (hl : l.length ≤ 1048576) (ht : ∀ x ∈ l, x.t.length ≤ 1048576) (hm : m.length = l.length) (hB : acc.length + (partL kd l m).length ≤ 140737488355328) (hR : R (.tup []) (ptS C (acc ++ partF kd l m))) :
    A1 (cx w0) B9.id [.ptr 1 0, .pv (rowsP l), .pv (.sl (E7 m)), .pv (.int .i64 kd)] (ptS C acc) R := by
  refine B9.calls ?_
  rw [B9.b0_eq]
  repeat ((with_reducible first | apply A0 | apply wI | apply wT | apply wP | apply wS | apply wB); exact rfl)
  rw [List.length_map]
  generalize hb : false = b
  have h19 : B9.n19 (B9.X w0 2) w0 2 R (ptS C acc) (.ptr 1 0) (.pv (rowsP l)) (.pv (.sl (E7 m))) kd (anyK kd l) := by
    refine B9.n19_in ?_
    rw [B9.b19_eq]
    repeat ((with_reducible first | apply A0 | apply wI | apply wT | apply wP | apply wS | apply wB); exact rfl)
    rw [List.length_map]
    exact put_loop l hl ht kd (anyK kd l) m hm l 0 acc rfl hB hR
  exact any_loop l hl kd h19 l 0 b rfl (by rw [← hb]; simp)
end
end Go.Sv
end
