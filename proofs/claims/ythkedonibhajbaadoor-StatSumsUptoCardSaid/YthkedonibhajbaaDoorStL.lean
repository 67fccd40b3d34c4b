/- The law's own copy of the counts. Bytes that are appended, a byte so many times. -/
import Derived.Test.YthkedonibhajbaaDoorFnF
import Derived.Test.YthkedonibhajbaaDoorStG
import Derived.Test.YthkedonibhajbaaDoorStJ
set_option linter.unusedVariables false
set_option linter.unusedSimpArgs false
set_option maxRecDepth 100000
namespace Go.Sv
section
open Go Go.RowKit Go.Proofs
/-- What 'mine' holds behind some rounds. -/
def mineS : List Cnt → Store × AV
  | [] => ([], .nilsl)
  | c :: r => ([.arr 3 ((c :: r).map cntP) false], .arr 0 (c :: r).length 0 (c :: r).length)
theorem mineS_ne {l : List Cnt} (h : l ≠ []) : mineS l = ([.arr 3 (l.map cntP) false], .arr 0 l.length 0 l.length) := by
  cases l with
  | nil => exact absurd rfl h
  | cons c r => rfl
theorem mine_step {done : List Cnt} {c : Cnt} (hl : (done.length + 1) * 32 ≤ 140737488355328) : aAppend (mineS done).1 ti48 (mineS done).2 (.pv (.sl [cntP c])) = some ((mineS (done ++ [c])).2, (mineS (done ++ [c])).1) := by
  rw [mineS_ne (l := done ++ [c]) (by simp)]
  cases done with
  | nil => rfl
  | cons b r =>
    have e : elems (mineS (b :: r)).1 (.pv (.sl [cntP c])) = some [cntP c] := rfl
    have hs : sized ti48.size [cntP c] = true := rfl
    unfold aAppend
    rw [e]
    have hr : roomy (((b :: r).map cntP).length + [cntP c].length) ti48.bytes := by
      rw [List.length_map]
      show (r.length + 1 + 1 ≤ _ ∧ (r.length + 1 + 1) * 32 ≤ _)
      simp only [List.length_cons] at hl
      omega
    have hm : ((b :: r).map cntP).length = (b :: r).length := List.length_map _
    show (if sized ti48.size [cntP c] = true then (if ((b :: r).map cntP).length = (b :: r).length ∧ 0 = 0 ∧ (b :: r).length = (b :: r).length ∧ 3 = ti48.size ∧ roomy (((b :: r).map cntP).length + [cntP c].length) ti48.bytes then _ else _) else _) = _
    rw [if_pos hs, if_pos ⟨hm, rfl, rfl, rfl, hr⟩]
    simp [mineS]
theorem mine_seal {l : List Cnt} : sealR 0 ([] ++ (mineS l).1) (mineS l).2 = some (cntsA l) := by
  cases l with
  | nil => rfl
  | cons c r =>
    show (if ((c :: r).map cntP).length = (c :: r).length ∧ 0 + (c :: r).length ≤ (c :: r).length then some (AV.pv (.sl ((((c :: r).map cntP).drop 0).take (c :: r).length))) else none) = _
    rw [if_pos ⟨List.length_map _, by omega⟩]
    simp [List.take_of_length_le]
section
variable {w0 : Base} {σ : Store} {R : AV → Store → Prop}
theorem mine_loop (l : List Cnt) (hx : l.length * 32 ≤ 140737488355328) : ∀ (r done : List Cnt), l = done ++ r → selvagelaw16_mine.n8 (selvagelaw16_mine.X w0 0) w0 0 (fun r' _ => r' = cntsA l) (mineS done).1 (cntsA l) (mineS done).2 done.length
  | [], done, h => by
    rw [List.append_nil] at h
    subst h
    refine selvagelaw16_mine.n8_in ?_
    rw [selvagelaw16_mine.b9_eq]
    repeat (first | ((with_reducible show opt _ _); refine opt_in rfl ?_) | ((with_reducible show isI _ _ _); refine isI_in ?_) | ((with_reducible show isTup _ _); refine isTup_in ?_))
    rw [condB_decide, if_neg (by rw [List.length_map]; omega)]
    refine selvagelaw16_mine.n19_in ?_
    rw [selvagelaw16_mine.b19_eq]
    exact fin_seal (σ := []) glob0 rfl mine_seal rfl
  | c :: r, done, h => by
    have hk : (l.map cntP)[done.length]? = some (cntP c) := by rw [h]; simp
    have hlen : l.length = done.length + (r.length + 1) := by rw [h]; simp
    have idx : ∀ σ, aIndexAddr σ tabS ti28.td (cntsA l) (done.length : Int) = some (.ro (cntP c) 0) := fun σ => idx_ro tab47 hk rfl
    refine selvagelaw16_mine.n8_in ?_
    rw [selvagelaw16_mine.b9_eq]
    repeat (first | ((with_reducible show opt _ _); refine opt_in rfl ?_) | ((with_reducible show isI _ _ _); refine isI_in ?_) | ((with_reducible show isTup _ _); refine isTup_in ?_))
    rw [condB_decide, if_pos (by rw [List.length_map]; omega)]
    refine opt_in (idx _) ?_
    repeat (first | ((with_reducible show opt _ _); refine opt_in rfl ?_) | ((with_reducible show isI _ _ _); refine isI_in ?_) | ((with_reducible show isTup _ _); refine isTup_in ?_))
    refine isS_in ?_
    refine opt_in (idx _) ?_
    repeat (first | ((with_reducible show opt _ _); refine opt_in rfl ?_) | ((with_reducible show isI _ _ _); refine isI_in ?_) | ((with_reducible show isTup _ _); refine isTup_in ?_))
    refine opt_in (idx _) ?_
    repeat (first | ((with_reducible show opt _ _); refine opt_in rfl ?_) | ((with_reducible show isI _ _ _); refine isI_in ?_) | ((with_reducible show isTup _ _); refine isTup_in ?_))
    refine opt2_in rfl ?_
    refine opt2_in (mine_step (c := c) (by omega)) ?_
    rw [wrap_next (n := l.length) (by omega) (by omega)]
    have := mine_loop l hx r (done ++ [c]) (by rw [h, List.append_assoc]; rfl)
    simpa using this
theorem mine_spec (L : Laid w0.w) {l : List Cnt} (hx : l.length * 32 ≤ 140737488355328) (hR : R (cntsA l) σ) : SCalls (cx w0) selvagelaw16_mine.id [cntsA l] σ R := by
  refine SCalls.alone L rfl (fun w1 L1 => ?_) rfl hR
  refine selvagelaw16_mine.calls ?_
  rw [selvagelaw16_mine.b0_eq]
  exact mine_loop l hx l [] rfl
end
end
section
open Go Go.RowKit Go.Proofs
/-- A slice of bytes that began as nil: the only object. -/
def bS : List UInt8 → Store × AV
  | [] => ([], .nilsl)
  | c :: r => ([.arr 1 (bytesPV (c :: r)) false], .arr 0 (c :: r).length 0 (c :: r).length)
theorem bS_ne {s : List UInt8} (h : s ≠ []) : bS s = ([.arr 1 (bytesPV s) false], .arr 0 s.length 0 s.length) := by
  cases s with
  | nil => exact absurd rfl h
  | cons c r => rfl
theorem bS_append {s t : List UInt8} {x : AV} (he : elems (bS s).1 x = some (bytesPV t)) (hl : s.length + t.length ≤ 140737488355328) : aAppend (bS s).1 ti5 (bS s).2 x = some ((bS (s ++ t)).2, (bS (s ++ t)).1) := by
  have hs : sized ti5.size (bytesPV t) = true := by
    simp only [sized, List.all_eq_true]
    intro x hx
    rw [bytesPV_cells x hx]; rfl
  cases s with
  | nil =>
    unfold aAppend
    rw [he]
    cases t with
    | nil => rfl
    | cons c r =>
      show (if sized ti5.size (bytesPV (c :: r)) = true then (if bytesPV (c :: r) = [] then _ else if roomy (bytesPV (c :: r)).length ti5.bytes then _ else _) else _) = _
      have hr : roomy (bytesPV (c :: r)).length ti5.bytes := by
        rw [bytesPV_length]
        simp only [List.length_nil, Nat.zero_add] at hl
        exact ⟨hl, by show (c :: r).length * 1 ≤ _; omega⟩
      rw [if_pos hs, if_neg (by simp [bytesPV]), if_pos hr]
      simp [bS, bytesPV_length]
  | cons c r =>
    unfold aAppend
    rw [he]
    have hm : (bytesPV (c :: r)).length = (c :: r).length := bytesPV_length _
    have hr : roomy ((bytesPV (c :: r)).length + (bytesPV t).length) ti5.bytes := by
      rw [bytesPV_length, bytesPV_length]
      exact ⟨hl, by show ((c :: r).length + t.length) * 1 ≤ _; omega⟩
    show (if sized ti5.size (bytesPV t) = true then (if (bytesPV (c :: r)).length = (c :: r).length ∧ 0 = 0 ∧ (c :: r).length = (c :: r).length ∧ 1 = ti5.size ∧ roomy ((bytesPV (c :: r)).length + (bytesPV t).length) ti5.bytes then _ else _) else _) = _
    rw [if_pos hs, if_pos ⟨hm, rfl, rfl, rfl, hr⟩, bytesPV_length, bytesPV_length]
    simp [bS, bytesPV]
    omega
theorem bS_conv {s : List UInt8} : aConvert (bS s).1 tabS ti63.td ti9.td (bS s).2 = some (.pv (.str s), (bS s).1) := by
  cases s with
  | nil => rfl
  | cons c r => exact conv_bytes (id := 0) (acc := c :: r) rfl
section
variable {w0 : Base} {σ : Store} {R : AV → Store → Prop}
theorem times_loop (c : UInt8) (n : Int) (hn : n ≤ 140737488355328) : ∀ (j k : Nat), (k : Int) + j = n → selvageref16_times.n8 (selvageref16_times.X w0 0) w0 0 (fun r' _ => r' = .pv (.str (List.replicate (k + j) c))) (bS (List.replicate k c)).1 c.toNat n (bS (List.replicate k c)).2 k
  | 0, k, h => by
    refine selvageref16_times.n8_in ?_
    rw [selvageref16_times.b9_eq, condB_decide, if_neg (by omega)]
    refine selvageref16_times.n19_in ?_
    rw [selvageref16_times.b19_eq]
    exact opt2_in bS_conv (isS_in (fin_keep (Nat.zero_le _) rfl))
  | j + 1, k, h => by
    refine selvageref16_times.n8_in ?_
    rw [selvageref16_times.b9_eq, condB_decide, if_pos (by omega)]
    refine opt2_in rfl ?_
    refine opt2_in (bS_append (s := List.replicate k c) (t := [c]) rfl (by simp; omega)) ?_
    rw [wrap_next (n := k + 1) (by omega) (by omega)]
    have := times_loop c n hn j (k + 1) (by omega)
    rw [List.replicate_succ'] at this
    rw [show k + (j + 1) = k + 1 + j by omega]
    exact this
theorem times_spec (L : Laid w0.w) {c : UInt8} {n : Int} (hn : n ≤ 140737488355328) (hR : R (.pv (.str (List.replicate n.toNat c))) σ) : SCalls (cx w0) selvageref16_times.id [.pv (.int .u8 c.toNat), .pv (.int .i64 n)] σ R := by
  refine SCalls.alone L rfl (fun w1 L1 => ?_) rfl hR
  refine selvageref16_times.calls ?_
  rw [selvageref16_times.b0_eq]
  by_cases h : 0 ≤ n
  · have := times_loop (w0 := w1) c n hn n.toNat 0 (by omega)
    rw [Nat.zero_add] at this
    exact this
  · refine selvageref16_times.n8_in ?_
    rw [selvageref16_times.b9_eq, condB_decide, if_neg (by omega)]
    refine selvageref16_times.n19_in ?_
    rw [selvageref16_times.b19_eq]
    refine opt2_in (bS_conv (s := [])) (isS_in (fin_keep (Nat.zero_le _) ?_))
    rw [show n.toNat = 0 by omega]; rfl
end
end
end Go.Sv
