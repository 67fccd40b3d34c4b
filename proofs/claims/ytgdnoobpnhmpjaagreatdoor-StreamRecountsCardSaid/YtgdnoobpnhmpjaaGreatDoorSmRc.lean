/- A text with its counts put right, on both sides; the law of it. -/
import Derived.Test.YtgdnoobpnhmpjaaGreatDoorSmZ
import Derived.Test.YtgdnoobpnhmpjaaGreatDoorSmJ
import Derived.Test.YtgdnoobpnhmpjaaGreatDoorSmW
set_option linter.unusedVariables false
set_option linter.unusedSimpArgs false
set_option maxRecDepth 100000
namespace Go.Sv
open Go Go.RowKit Go.Proofs
theorem flatten_le {B : Nat} : ∀ (L : List Ln), (∀ l ∈ L, l.length ≤ B) → L.flatten.length ≤ L.length * B
  | [], _ => by simp
  | l :: r, h => by
    have h1 := h l (by simp)
    have h2 := flatten_le r fun x hx => h x (List.mem_cons_of_mem _ hx)
    rw [List.flatten_cons, List.length_append, List.length_cons, Nat.add_mul]
    omega
theorem mem_flatten_le : ∀ (L : List Ln) (l : Ln), l ∈ L → l.length ≤ L.flatten.length
  | [], l, h => by cases h
  | x :: r, l, h => by
    rw [List.flatten_cons, List.length_append]
    rcases List.mem_cons.1 h with rfl | h
    · omega
    · have := mem_flatten_le r l h
      omega
theorem splitF_ne : ∀ (s : Ln), ∀ l ∈ splitF s, l ≠ []
  | [], l, h => by cases h
  | c :: r, l, h => by
    have ih := splitF_ne r
    unfold splitF at h
    split at h
    · rcases List.mem_cons.1 h with rfl | h
      · simp
      · exact ih l h
    · split at h
      · simp only [List.mem_singleton] at h
        subst h; simp
      · rename_i k ls e
        rcases List.mem_cons.1 h with rfl | h
        · simp
        · exact ih l (by rw [e]; exact List.mem_cons_of_mem _ h)
theorem splitF_le {s : Ln} {l : Ln} (h : l ∈ splitF s) : l.length ≤ s.length := by
  have := mem_flatten_le _ _ h
  rw [splitF_flat] at this
  exact this
def recT (s : Ln) : Ln := (recF ((splitF s).length + 1) false (splitF s)).flatten
def recP (s : Ln) : AV := if s.length ≤ 4194304 then .tup [.pv (.str (recT s)), .pv (.raw .nilIface)] else .tup [.pv (.str []), .pv (.iface 61 (.int .i64 2))]
def recR (s : Ln) : AV := if s.length ≤ 4194304 then .tup [.pv (.str (recT s)), .pv (.int .i64 0)] else .tup [.pv (.str []), .pv (.int .i64 2)]
theorem recP_under (s : Ln) : AV.under 0 (recP s) = true := by unfold recP; split <;> rfl
theorem recR_under (s : Ln) : AV.under 0 (recR s) = true := by unfold recR; split <;> rfl
section
variable {w0 : Base} {σ : Store} {R : AV → Store → Prop}
theorem Recount_spec (L : Laid w0.w) {s : Ln} (hR : R (recP s) σ) : SCalls (cx w0) stream_Recount.id [.pv (.str s)] σ R := by
  refine SCalls.alone L rfl (fun w1 L1 => ?_) (recP_under s) hR
  refine stream_Recount.calls ?_
  rw [stream_Recount.b0_eq, condB_decide]
  refine ite_split (fun g => ?_) (fun g => ?_)
  · refine opt_in rfl (fin_same ?_)
    unfold recP; rw [if_neg (by omega)]
  · have hs : s.length ≤ 4194304 := by omega
    have hn := splitF_len s
    refine SplitK_spec (by omega) ?_
    refine rec_loop (P := fun r => r = recP s) L1 (n := (splitF s).length) (by omega) (fun ks hk hlen hP => ?_) ((splitF s).length + 1) false 0 (splitF s) rfl (Nat.zero_le _) (by omega) (splitF_ne s) (fun l hl => by have := splitF_le hl; omega) (fun l hl => by have := splitF_le (List.mem_of_mem_drop hl); omega) ?_
    · refine stream_Recount.n55_in ?_
      rw [stream_Recount.b55_eq]
      have hfl := flatten_le ks hlen
      rw [hk] at hfl
      have hmul : (splitF s).length * 8388608 ≤ 4194304 * 8388608 := Nat.mul_le_mul_right _ (by omega)
      have htk : (ks.drop 0).take (splitF s).length = ks := by rw [List.drop_zero, List.take_of_length_le (by omega)]
      refine Join_spec (id := 0) (L := ks) rfl hk (by omega) (by omega) (by rw [htk]; omega) ?_
      rw [htk]
      exact isS_in (fin_cut (σ := []) (L := _) glob0 rfl rfl hP)
    · unfold recP recT
      rw [if_pos hs, List.take_zero, List.nil_append, List.drop_zero]
theorem rRecount_spec (L : Laid w0.w) {s : Ln} (hR : R (recR s) σ) : SCalls (cx w0) selvageref28_Recount.id [.pv (.str s)] σ R := by
  refine SCalls.alone L rfl (fun w1 L1 => ?_) (recR_under s) hR
  refine selvageref28_Recount.calls ?_
  rw [selvageref28_Recount.b0_eq, condB_decide]
  refine ite_split (fun g => ?_) (fun g => ?_)
  · refine fin_same ?_
    unfold recR; rw [if_neg (by omega)]
  · have hs : s.length ≤ 4194304 := by omega
    have hn := splitF_len s
    refine rSplit_spec L1 (by omega) ?_
    refine selvageref28_Recount.n20_weak (l_' := .pv (lnsP (splitF s))) (out' := .arr 0 0 0 0) (in_' := false) (at_' := (0 : Nat)) (τ := [.arr 1 (bytesPV []) false]) (EWeak.nil (t := 5) (es := 1) rfl rfl) ?_
    refine rrec_loop (P := fun r => r = recR s) L1 (L := splitF s) (by omega) (splitF_ne s) (fun l hl => by have := splitF_le hl; omega) (by rw [splitF_flat]; exact hs) ((splitF s).length + 1) false 0 [] (Nat.zero_le _) (by omega) (by rw [List.drop_zero, splitF_flat, List.length_nil]; omega) ?_
    unfold recR recT
    rw [if_pos hs, List.nil_append, List.drop_zero]
theorem snum_nil (L : Laid w0.w) (hR : R (.pv (.int .i64 0)) σ) : SCalls (cx w0) selvagelaw28_num.id [.pv (.raw .nilIface)] σ R := by
  refine SCalls.alone L rfl (fun w1 L1 => ?_) rfl hR
  refine selvagelaw28_num.calls ?_
  rw [selvagelaw28_num.b0_eq, eql_raw]
  refine opt_in rfl (opt_in (v := true) rfl (isB_in ?_))
  refine condB_split (fun _ => ?_) (fun h => absurd h (by decide))
  exact fin_keep (Nat.zero_le _) rfl
theorem snum_err (L : Laid w0.w) {n : Int} (hR : R (.pv (.int .i64 n)) σ) : SCalls (cx w0) selvagelaw28_num.id [.pv (.iface 61 (.int .i64 n))] σ R := by
  refine SCalls.alone L rfl (fun w1 L1 => ?_) rfl hR
  refine selvagelaw28_num.calls ?_
  rw [selvagelaw28_num.b0_eq, eql_raw]
  refine opt_in rfl (opt_in (v := false) rfl (isB_in ?_))
  refine condB_split (fun h => absurd h (by decide)) (fun _ => ?_)
  refine opt_in rfl ?_
  refine As_spec (id := 0) L1 rfl (isB_in ?_)
  refine condB_split (fun h => absurd h (by decide)) (fun _ => ?_)
  refine opt_in (v := .pv (.int .i64 n)) rfl (isI_in ?_)
  exact fin_keep (Nat.zero_le _) rfl
theorem recounts_law (L : Laid w0.w) {s : Ln} : SCalls (cx w0) selvagelaw28_StreamRecounts.id [.pv (.str s)] [] fun r _ => r = .pv (.bool true) := by
  refine selvagelaw28_StreamRecounts.calls ?_
  rw [selvagelaw28_StreamRecounts.b0_eq]
  refine Recount_spec L ?_
  have fin : selvagelaw28_StreamRecounts.n8 (selvagelaw28_StreamRecounts.X w0 0) w0 0 (fun r _ => r = .pv (.bool true)) [] true := by
    refine selvagelaw28_StreamRecounts.n8_in ?_
    rw [selvagelaw28_StreamRecounts.b8_eq]
    exact fin_same rfl
  unfold recP
  split
  · rename_i h
    repeat ((with_reducible first | apply opt_in | apply wI | apply wT | apply wP | apply wS | apply wB); exact rfl)
    refine rRecount_spec L ?_
    unfold recR
    rw [if_pos h]
    repeat ((with_reducible first | apply opt_in | apply wI | apply wT | apply wP | apply wS | apply wB); exact rfl)
    rw [beq_self_eq_true, condB_true']
    refine snum_nil L (isI_in ?_)
    rw [condB_ibeq, if_pos rfl]
    exact works_spec L (isB_in fin)
  · rename_i h
    repeat ((with_reducible first | apply opt_in | apply wI | apply wT | apply wP | apply wS | apply wB); exact rfl)
    refine rRecount_spec L ?_
    unfold recR
    rw [if_neg h]
    repeat ((with_reducible first | apply opt_in | apply wI | apply wT | apply wP | apply wS | apply wB); exact rfl)
    rw [beq_self_eq_true, condB_true']
    refine snum_err L (isI_in ?_)
    rw [condB_ibeq, if_pos rfl]
    exact works_spec L (isB_in fin)
theorem StreamRecounts_spec (L : Laid w0.w) {p : PV} (h1 : hasT tabS 12 9 p) : SCalls (cx w0) selvagelaw28_StreamRecounts.id [.pv p] [] fun r _ => r = .pv (.bool true) := by
  obtain ⟨s, rfl, _⟩ := hasT_str tab9 rfl h1
  exact recounts_law L
end
end Go.Sv
