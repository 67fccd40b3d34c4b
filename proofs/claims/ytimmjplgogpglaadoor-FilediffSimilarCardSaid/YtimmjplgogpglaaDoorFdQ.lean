/- What package myers answers: how many rows a shortest script takes out and puts in; the length of a longest common subsequence. -/
import Derived.Test.YtimmjplgogpglaaDoorFdP
set_option linter.unusedVariables false
set_option linter.unusedSimpArgs false
set_option maxRecDepth 100000
namespace Go.Sv
open Go
theorem wrap_add (x y : Int) : IntKind.wrap .i64 (IntKind.wrap .i64 x + IntKind.wrap .i64 y) = IntKind.wrap .i64 (x + y) := by
  unfold IntKind.wrap
  have e1 : (2 : Int) ^ IntKind.i64.bits = 18446744073709551616 := by decide
  have e2 : (2 : Int) ^ (IntKind.i64.bits - 1) = 9223372036854775808 := by decide
  simp only [e1, e2, IntKind.signed, Bool.true_and, decide_eq_true_eq]
  split <;> split <;> split <;> split <;> omega
def lcsL (a b : List Int) : Nat := lcsF (eqL a b) a.length b.length
theorem lcs_cnt (a b : List Int) : 2 * lcsL a b + cntL a b = a.length + b.length := lcs_way _ _
theorem half_of {n m l c : Nat} (h : 2 * l + c = n + m) (hn : n ≤ 4194304) (hm : m ≤ 4194304) : IntKind.wrap .i64 (Int.tdiv (IntKind.wrap .i64 (IntKind.wrap .i64 ((n : Int) + (m : Int)) - (c : Int))) 2) = (l : Int) := by
  rw [wrap_i64 (n := (n : Int) + m) (by omega) (by omega), wrap_i64 (n := (n : Int) + m - c) (by omega) (by omega), Int.tdiv_eq_ediv_of_nonneg (by omega), wrap_i64 (by omega) (by omega)]
  omega
section
open Go Go.RowKit Go.Proofs
variable {w0 : Base} {σ : Store} {P : AV → Prop} {a b : List Int} {G C : List Bool}
theorem sumC_drop {l : List Ch} {k : Nat} {c : Ch} (h : l[k]? = some c) : sumC (l.take (k + 1)) = sumC (l.take k) + (c.n + c.m) := by
  rw [List.take_add_one, h]
  exact sumC_app _ _
theorem ch_get {l : List Ch} {k : Nat} {c : Ch} (h : l[k]? = some c) : (l.map chP)[k]? = some (chP c) := by rw [List.getElem?_map, h]; rfl
theorem dist_loop {l : List Ch} {T : Nat} (hs : sumC l = (T : Int)) (hT : T ≤ 16777216) (hl : l.length ≤ 8388608) (hP : P (.pv (.int .i64 (T : Int)))) : ∀ (f k : Nat), k + f = l.length → myers_Distance.n8 (myers_Distance.X w0 0) w0 0 (fun r _ => P r) [] (IntKind.wrap .i64 (sumC (l.take k))) (.pv (.sl (l.map chP))) (l.length : Nat) (k : Nat)
  | 0, k, hk => by
    refine myers_Distance.n8_in ?_
    rw [myers_Distance.b9_eq, condB_decide, if_neg (by omega)]
    refine myers_Distance.n21_in ?_
    rw [myers_Distance.b21_eq, List.take_of_length_le (by omega), hs, wrap_i64 (by omega) (by omega)]
    exact fin_keep (Nat.zero_le _) hP
  | f + 1, k, hk => by
    have hlt : k < l.length := by omega
    have hg : l[k]? = some l[k] := List.getElem?_eq_getElem hlt
    refine myers_Distance.n8_in ?_
    rw [myers_Distance.b9_eq, condB_decide, if_pos (by omega)]
    refine opt_in (idx_ro tab82 (ch_get hg) rfl) ?_
    repeat ((with_reducible first | apply opt_in | apply wI | apply wT | apply wP | apply wS | apply wB); exact rfl)
    rw [wrap_add, wrap_next (n := l.length) hlt (by omega), ← sumC_drop hg]
    refine myers_Distance.n8_weak (EWeak.drop (τ := []) glob0 (Nat.zero_le _) rfl rfl) ?_
    exact dist_loop hs hT hl hP f (k + 1) (by omega)
theorem cnt_le (a b : List Int) : cntL a b ≤ a.length + b.length := (cnt_facts a b).1
theorem Distance_spec {R : AV → Store → Prop} (L : Laid w0.w) (ha : a.length ≤ 4194304) (hb : b.length ≤ 4194304) (hR : R (.pv (.int .i64 (cntL a b : Int))) σ) : SCalls (cx w0) myers_Distance.id [intsA a, intsA b] σ R := by
  refine SCalls.alone L rfl (fun w1 L1 => ?_) rfl hR
  refine myers_Distance.calls ?_
  rw [myers_Distance.b0_eq]
  refine Diff_spec L1 ha hb fun l h1 h2 => ?_
  repeat ((with_reducible first | apply opt_in | apply wI | apply wT | apply wP | apply wS | apply wB); exact rfl)
  rw [List.length_map]
  have := cnt_le a b
  exact dist_loop (P := fun r' => r' = .pv (.int .i64 (cntL a b : Int))) h1 (by omega) h2 rfl l.length 0 (Nat.zero_add _)
theorem Common_spec {R : AV → Store → Prop} (L : Laid w0.w) (ha : a.length ≤ 4194304) (hb : b.length ≤ 4194304) (hR : R (.pv (.int .i64 (lcsL a b : Int))) σ) : SCalls (cx w0) myers_Common.id [intsA a, intsA b] σ R := by
  refine SCalls.alone L rfl (fun w1 L1 => ?_) rfl hR
  refine myers_Common.calls ?_
  rw [myers_Common.b0_eq]
  repeat ((with_reducible first | apply opt_in | apply wI | apply wT | apply wP | apply wS | apply wB); exact rfl)
  refine Distance_spec L1 ha hb ?_
  repeat ((with_reducible first | apply opt_in | apply wI | apply wT | apply wP | apply wS | apply wB); exact rfl)
  rw [List.length_map, List.length_map, half_of (lcs_cnt a b) ha hb]
  exact ⟨by decide, fin_keep (Nat.zero_le _) rfl⟩
end
end Go.Sv
