/- What package myers answers: a script's changes come to as many rows as a shortest one takes out and puts in; the length of a longest common subsequence. -/
import Derived.Test.YtimmjplgogpglaaDoorFdO
set_option linter.unusedVariables false
set_option linter.unusedSimpArgs false
set_option maxRecDepth 100000
namespace Go.Sv
theorem sum_step {S : Int} {A A' B B' T d e : Nat} (h : S + (A : Int) + (B : Int) = (T : Int)) (h1 : A = d + A') (h2 : B = e + B') : S + ((d : Int) + (e : Int)) + (A' : Int) + (B' : Int) = (T : Int) := by omega
theorem sum_same {S : Int} {A A' B B' T : Nat} (h : S + (A : Int) + (B : Int) = (T : Int)) (h1 : A = A') (h2 : B = B') : S + (A' : Int) + (B' : Int) = (T : Int) := by rw [← h1, ← h2]; exact h
theorem sum_end {S : Int} {A B T : Nat} (h : S + (A : Int) + (B : Int) = (T : Int)) (h1 : A = 0) (h2 : B = 0) : S = (T : Int) := by omega
section
open Go Go.RowKit Go.Proofs
variable {w0 : Base} {σ : Store} {P : AV → Prop} {a b : List Int} {G C : List Bool}
theorem ch_seal {G C : List Bool} (l : List Ch) : sealR 0 ([] ++ dS G C l) (lA l) = some (.pv (.sl (l.map chP))) := by
  show (if (l.map chP).length = l.length ∧ 0 + l.length ≤ l.length then some (AV.pv (.sl (((l.map chP).drop 0).take l.length))) else none) = _
  rw [if_pos ⟨List.length_map _, by omega⟩]
  simp [List.take_of_length_le]
theorem diff_end {l : List Ch} (hP : P (.pv (.sl (l.map chP)))) : myers_Diff.n55 (myers_Diff.X w0 0) w0 0 (fun r _ => P r) (dS G C l) (lA l) := by
  refine myers_Diff.n55_in ?_
  rw [myers_Diff.b55_eq]
  exact fin_seal (σ := []) (L := dS G C l) glob0 rfl (ch_seal l) hP
theorem diff_step {l : List Ch} {x y d e : Nat} (hx : x + d ≤ 16777216) (hy : y + e ≤ 16777216) (hl : l.length ≤ 16777216)
    (more : 0 < d + e → d10 w0 P a b G C (l ++ [⟨x, d, y, e⟩]) (x + d) (y + e)) (next : d = 0 → e = 0 → d10 w0 P a b G C l (x + 1) (y + 1)) : d42 w0 P a b G C l x y (x + d) (y + e) := by
  refine myers_Diff.n42_in ?_
  rw [myers_Diff.b42_eq]
  have w1 : IntKind.wrap .i64 (((x + d : Nat) : Int) - (x : Int)) = (d : Int) := by rw [wrap_i64 (by omega) (by omega)]; omega
  have w2 : IntKind.wrap .i64 (((y + e : Nat) : Int) - (y : Int)) = (e : Int) := by rw [wrap_i64 (by omega) (by omega)]; omega
  have w3 : IntKind.wrap .i64 ((d : Int) + (e : Int)) = ((d + e : Nat) : Int) := by rw [wrap_i64 (by omega) (by omega)]; omega
  repeat ((with_reducible first | apply opt_in | apply wI | apply wT | apply wP | apply wS | apply wB); exact rfl)
  rw [w1]
  repeat ((with_reducible first | apply opt_in | apply wI | apply wT | apply wP | apply wS | apply wB); exact rfl)
  rw [w2]
  repeat ((with_reducible first | apply opt_in | apply wI | apply wT | apply wP | apply wS | apply wB); exact rfl)
  rw [w3, condB_decide]
  refine ite_split (fun g => ?_) (fun g => ?_)
  · have nx := more (by omega)
    repeat ((with_reducible first | apply opt_in | apply wI | apply wT | apply wP | apply wS | apply wB); exact rfl)
    refine opt2_in (v := .pv (.sl [chP ⟨x, d, y, e⟩])) rfl ?_
    refine opt2_in (append_pv (id := 1) (es := 4) (ver := l.length) (xs := l.map chP) (ys := [chP ⟨x, d, y, e⟩]) rfl rfl (List.length_map _).symm rfl rfl ⟨by rw [List.length_map]; show l.length + 1 ≤ _; omega, by rw [List.length_map]; show (l.length + 1) * 32 ≤ _; omega⟩) ?_
    rw [List.length_map]
    have e1 : l.map chP ++ [chP ⟨x, d, y, e⟩] = (l ++ [(⟨x, d, y, e⟩ : Ch)]).map chP := by simp
    rw [e1]
    have e2 : (l ++ [(⟨x, d, y, e⟩ : Ch)]).length = l.length + 1 := by simp
    unfold d10 lA at nx
    rw [e2] at nx
    exact myers_Diff.n10_weak (EWeak.drop (τ := dS G C (l ++ [⟨x, d, y, e⟩])) glob0 (Nat.zero_le _) rfl rfl) nx
  · have nx := next (by omega) (by omega)
    have hd : d = 0 := by omega
    have he : e = 0 := by omega
    subst hd; subst he
    rw [Nat.add_zero, Nat.add_zero, wrap_next (n := 16777217) (by omega) (by omega), wrap_next (n := 16777217) (by omega) (by omega)]
    exact myers_Diff.n10_weak (EWeak.drop (τ := dS G C l) glob0 (Nat.zero_le _) rfl rfl) nx
theorem diff_loop (ha : a.length ≤ 4194304) (hb : b.length ≤ 4194304) (hG : G.length = a.length) (hC : C.length = b.length) {T : Nat} (hP : ∀ l : List Ch, sumC l = (T : Int) → l.length ≤ 8388608 → P (.pv (.sl (l.map chP)))) :
    ∀ (f : Nat) (l : List Ch) (x y : Nat), (a.length - x) + (b.length - y) < f → x + (b.length - y) ≤ a.length + b.length → y + (a.length - x) ≤ a.length + b.length → l.length + ((a.length - x) + (b.length - y)) ≤ 8388608 → sumC l + (trueN (G.drop x) : Int) + (trueN (C.drop y) : Int) = (T : Int) → d10 w0 P a b G C l x y
  | 0, _, _, _, hf, _, _, _, _ => absurd hf (Nat.not_lt_zero _)
  | f + 1, l, x, y, hf, bx, by', hl, hs => by
    have hs' : Hid (sumC l + (trueN (G.drop x) : Int) + (trueN (C.drop y) : Int) = (T : Int)) := hs
    clear hs
    have h14 : ∀ q : Bool, (q = true ↔ (x < a.length ∨ y < b.length)) → myers_Diff.n14 (myers_Diff.X w0 0) w0 0 (fun r _ => P r) (dS G C l) (intsA a) (intsA b) (.ptr 0 0) (lA l) x y q := by
      intro q hq
      refine myers_Diff.n14_in ?_
      rw [myers_Diff.b14_eq]
      refine condB_split (fun g => ?_) (fun g => ?_)
      · have hor := hq.1 g
        repeat ((with_reducible first | apply opt_in | apply wI | apply wT | apply wP | apply wS | apply wB); exact rfl)
        refine x_loop (l := l) (p := x) (r := y) (y := y) hG ha (a.length + 1) x (by omega) fun d h1 h2 h3 => ?_
        refine y_loop (l := l) (p := x) (r := y) hC hb (b.length + 1) y (by omega) fun e g1 g2 g3 => ?_
        refine diff_step (by omega) (by omega) (by omega) (fun hp => ?_) (fun hd he => ?_)
        · refine diff_loop ha hb hG hC hP f _ (x + d) (y + e) (by omega) (by omega) (by omega) (by rw [List.length_append, List.length_singleton]; omega) ?_
          rw [sumC_app]
          exact sum_step hs' h1 g1
        · subst hd; subst he
          refine diff_loop ha hb hG hC hP f l (x + 1) (y + 1) (by omega) (by omega) (by omega) (by omega) ?_
          exact sum_same hs' (drop_not h3) (drop_not g3)
      · have hn : ¬ (x < a.length ∨ y < b.length) := fun h => by rw [hq.2 h] at g; cases g
        exact diff_end (hP l (sum_end hs' (drop_past (by omega)) (drop_past (by omega))) (by omega))
    refine myers_Diff.n10_in ?_
    rw [myers_Diff.b11_eq]
    repeat ((with_reducible first | apply opt_in | apply wI | apply wT | apply wP | apply wS | apply wB); exact rfl)
    rw [List.length_map, condB_decide]
    refine ite_split (fun g => ?_) (fun g => ?_)
    · exact h14 true ⟨fun _ => .inl (by omega), fun _ => rfl⟩
    · repeat ((with_reducible first | apply opt_in | apply wI | apply wT | apply wP | apply wS | apply wB); exact rfl)
      rw [List.length_map]
      refine h14 _ ?_
      rw [decide_eq_true_iff]
      omega
def DiffIs (n : Nat) (r : AV) : Prop := ∃ l : List Ch, sumC l = (n : Int) ∧ l.length ≤ 8388608 ∧ r = .pv (.sl (l.map chP))
theorem Diff_spec {R : AV → Store → Prop} (L : Laid w0.w) (ha : a.length ≤ 4194304) (hb : b.length ≤ 4194304) (hR : ∀ l : List Ch, sumC l = (cntL a b : Int) → l.length ≤ 8388608 → R (.pv (.sl (l.map chP))) σ) : SCalls (cx w0) myers_Diff.id [intsA a, intsA b] σ R := by
  refine SCalls.some_of (P := DiffIs (cntL a b)) L rfl (fun w1 L1 => ?_) (fun r ⟨l, _, _, e⟩ => by rw [e]; rfl) (fun r ⟨l, h1, h2, e⟩ => by rw [e]; exact hR l h1 h2)
  refine myers_Diff.calls ?_
  rw [myers_Diff.b0_eq]
  refine mark_spec L1 ha hb fun G C hG hC hs => ?_
  repeat ((with_reducible first | apply opt_in | apply wI | apply wT | apply wP | apply wS | apply wB); exact rfl)
  refine myers_Diff.n10_weak (a' := intsA a) (b' := intsA b) (m' := .ptr 0 0) (out' := lA []) (x' := (0 : Nat)) (y' := (0 : Nat)) (τ := dS G C []) (EWeak.nil (t := 6) (es := 4) rfl rfl) ?_
  refine diff_loop (T := cntL a b) ha hb hG hC (fun l h1 h2 => ⟨l, h1, h2, rfl⟩) _ [] 0 0 (Nat.lt_succ_self _) (by omega) (by omega) (by simp only [List.length_nil]; omega) ?_
  rw [List.drop_zero, List.drop_zero, ← hs]
  show (0 : Int) + _ + _ = _
  rw [Int.zero_add, Int.natCast_add]
end
end Go.Sv
