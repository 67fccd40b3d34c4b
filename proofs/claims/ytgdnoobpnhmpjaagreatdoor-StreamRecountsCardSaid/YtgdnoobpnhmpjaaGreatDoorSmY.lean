/- A text with its counts put right: the program's loop over its lines. -/
import Derived.Test.YtgdnoobpnhmpjaaGreatDoorSmX
set_option linter.unusedVariables false
set_option linter.unusedSimpArgs false
set_option maxRecDepth 100000
namespace Go.Sv
open Go Go.RowKit Go.Proofs
section
variable {w0 : Base} {P : AV → Prop}
abbrev rc18 (w0 : Base) (P : AV → Prop) (n : Nat) (ks : List Ln) (b : Bool) (i : Nat) : Prop := stream_Recount.n18 (stream_Recount.X w0 0) w0 0 (fun r _ => P r) (lnS ks) (.arr 0 n 0 n) b i
theorem ln_store {σ : Store} {i n : Nat} {ks : List Ln} (ho : σ[i]? = some (.arr 1 (ks.map PV.str) false)) (hn : ks.length = n) {j : Nat} {s t : Ln} (hj : ks[j]? = some s) : aStore σ ti9 (.eptr i n j 0) (.pv (.str t)) = some (σ.set i (.arr 1 ((ks.set j t).map PV.str) false)) := by
  have hg : (ks.map PV.str)[j]? = some (PV.str s) := by rw [List.getElem?_map, hj]; rfl
  show (if 1 = 1 ∧ true = true then (match σ[i]?, some [PV.str t] with
      | some (.arr es xs false), some ps =>
        if xs.length = n then match xs[j]? with
          | some (.agg cs) => if 0 + ps.length ≤ cs.length then some (σ.set i (.arr es (xs.set j (.agg (splice cs 0 ps))) false)) else none
          | some _ => match ps with
            | [q] => if 0 = 0 then some (σ.set i (.arr es (xs.set j q) false)) else none
            | _ => none
          | none => none
        else none
      | _, _ => none) else none) = _
  rw [if_pos ⟨rfl, rfl⟩, ho]
  simp only [if_pos (show (ks.map PV.str).length = n by rw [List.length_map]; exact hn), hg]
  simp only [if_true]
  rw [show (ks.map PV.str).set j (PV.str t) = (ks.set j t).map PV.str from List.map_set.symm]
theorem firstF_len {l t : Ln} {a b : Nat} (h : firstF l = some (a, b, t)) : t.length ≤ l.length ∧ a ≤ 2147483647 ∧ b ≤ 2147483647 := by
  have num : ∀ {s t : Ln} {a : Nat}, rangeF s = some (a, t) → a ≤ 2147483647 := by
    intro s t a h
    unfold rangeF numF at h
    split at h
    · cases h
    · rename_i a' t' e
      split at e
      · cases e
      · rename_i hn
        have hv := (not_or.1 hn).2
        cases e
        split at h
        · cases h; omega
        · split at h
          · cases h
          · cases h; omega
  unfold firstF at h
  split at h
  · cases h
  · rename_i s1 e1
    split at h
    · cases h
    · rename_i a' s2 e2
      split at h
      · cases h
      · rename_i s3 e3
        split at h
        · cases h
        · rename_i b' s4 e4
          split at h
          · cases h
          · rename_i s5 e5
            have l1 := behF_len e1
            have l2 := rangeF_len e2
            have l3 := behF_len e3
            have l4 := rangeF_len e4
            have l5 := behF_len e5
            have l0 := bareB_len l
            split at h
            · cases h
              exact ⟨by omega, num e2, num e4⟩
            · cases h
theorem recF_no {q : Nat} {b : Bool} {l : Ln} {r : List Ln} (h : headF (l :: r) = false) (e : (if b = true then firstF l else none) = none) : recF (q + 1) b (l :: r) = l :: recF q false r := by
  rw [recF.eq_def]
  simp only
  rw [if_neg (by rw [h]; decide), e]
theorem recF_yes {q : Nat} {l t : Ln} {r : List Ln} {x y : Nat} (h : headF (l :: r) = false) (e : firstF l = some (x, y, t)) : recF (q + 1) true (l :: r) = lineF l x y (rowsN r).2.1 (rowsN r).2.2 t :: (r.take (rowsN r).1 ++ recF q true (r.drop (rowsN r).1)) := by
  rw [recF.eq_def]
  simp only
  rw [if_neg (by rw [h]; decide), if_pos trivial, e]
theorem recF_head {q : Nat} {b : Bool} {l m : Ln} {r : List Ln} (h : headF (l :: m :: r) = true) : recF (q + 1) b (l :: m :: r) = l :: m :: recF q true r := by
  rw [recF.eq_def]
  simp only
  rw [if_pos h]
theorem bare_drop (l : Ln) : (l.drop (bareB l).length).length ≤ 1 := by
  rw [List.length_drop]
  unfold bareB
  split
  · rw [List.length_dropLast]; omega
  · omega
theorem rec_loop (L : Laid w0.w) {n : Nat} (hn : n ≤ 4194304) (join : ∀ ks : List Ln, ks.length = n → (∀ l ∈ ks, l.length ≤ 8388608) → P (.tup [.pv (.str ks.flatten), .pv (.raw .nilIface)]) → stream_Recount.n55 (stream_Recount.X w0 0) w0 0 (fun r _ => P r) (lnS ks) (.arr 0 n 0 n)) :
    ∀ (q : Nat) (b : Bool) (i : Nat) (ks : List Ln), ks.length = n → i ≤ n → n - i < q → (∀ l ∈ ks, l ≠ []) → (∀ l ∈ ks, l.length ≤ 8388608) → (∀ l ∈ ks.drop i, l.length ≤ 4194304) → P (.tup [.pv (.str (ks.take i ++ recF q b (ks.drop i)).flatten), .pv (.raw .nilIface)]) → rc18 w0 P n ks b i
  | 0, b, i, ks, hk, hi, hq, _, _, _, _ => absurd hq (Nat.not_lt_zero _)
  | q + 1, b, i, ks, hk, hi, hq, hne, hlen, hold, hP => by
    refine stream_Recount.n18_in ?_
    rw [stream_Recount.b19_eq]
    refine opt_in (v := .pv (.int .i64 (n : Nat))) rfl (isI_in ?_)
    rw [condB_decide]
    refine ite_split (fun g => ?_) (fun g => ?_)
    · have hlt : i < ks.length := by omega
      have gl : ks[i]? = some ks[i] := List.getElem?_eq_getElem hlt
      have hd : ks.drop i = ks[i] :: ks.drop (i + 1) := List.drop_eq_getElem_cons hlt
      generalize ks[i] = l at gl hd
      have hll : l.length ≤ 4194304 := hold l (by rw [hd]; simp)
      have htk : ks.take (i + 1) = ks.take i ++ [l] := by rw [List.take_add_one, gl]; rfl
      refine opt_in (ln_cut (off := 0) (len := n) rfl hk (by omega)) ?_
      rw [Nat.zero_add]
      refine header_spec (σ := lnS ks) rfl hk (by omega) (isB_in ?_)
      refine condB_split (fun h => ?_) (fun h => ?_)
      · -- a header
        obtain ⟨m, r', hm⟩ : ∃ m r', ks.drop (i + 1) = m :: r' := by
          rw [hd] at h
          cases e : ks.drop (i + 1) with
          | nil => rw [e] at h; cases h
          | cons m r' => exact ⟨m, r', rfl⟩
        have hl2 := congrArg List.length hm
        rw [List.length_drop, List.length_cons] at hl2
        have hd2 : ks.drop (i + 2) = r' := by
          rw [show i + 2 = (i + 1) + 1 by omega, ← List.drop_drop, hm]; rfl
        have htk2 : ks.take (i + 2) = ks.take i ++ [l, m] := by
          have gm : ks[i + 1]? = some m := by
            have : (ks.drop (i + 1))[0]? = some m := by rw [hm]; rfl
            rw [List.getElem?_drop] at this
            exact this
          rw [show i + 2 = (i + 1) + 1 by omega, List.take_add_one, gm, htk]
          simp
        rw [show IntKind.wrap .i64 ((i : Int) + 2) = ((i + 2 : Nat) : Int) by rw [wrap_i64 (by omega) (by omega)]; omega]
        refine rec_loop L hn join q true (i + 2) ks hk (by omega) (by omega) hne hlen (fun x hx => hold x ?_) ?_
        · rw [show i + 2 = i + 2 from rfl, ← List.drop_drop] at hx
          exact List.mem_of_mem_drop hx
        · rw [hd] at h hP
          rw [hm] at h hP
          rw [recF_head h] at hP
          rw [htk2, hd2]
          simpa using hP
      · -- no header
        have h41 : ∀ (x y : Int) (t : Ln) (s : Bool), (s = false → b = true ∧ ∃ x' y' : Nat, x = x' ∧ y = y' ∧ firstF l = some (x', y', t)) → (s = true → (if b = true then firstF l else none) = none) → stream_Recount.n41 (stream_Recount.X w0 0) w0 0 (fun r _ => P r) (lnS ks) (.arr 0 n 0 n) b i x y t s := by
          intro x y t s g1 g2
          refine stream_Recount.n41_in ?_
          rw [stream_Recount.b41_eq]
          refine condB_split (fun gs => ?_) (fun gs => ?_)
          · have e := g2 gs
            rw [wrap_next (n := n) (by omega) (by omega)]
            refine rec_loop L hn join q false (i + 1) ks hk (by omega) (by omega) hne hlen (fun x hx => hold x (by rw [hd]; exact List.mem_cons_of_mem _ hx)) ?_
            rw [hd] at h hP
            rw [recF_no h e] at hP
            rw [htk]
            simpa using hP
          · obtain ⟨rfl, x', y', rfl, rfl, ef⟩ := g1 gs
            rw [wrap_next (n := n) (by omega) (by omega)]
            refine opt_in (ln_cut (off := 0) (len := n) rfl hk (by omega)) ?_
            rw [Nat.zero_add]
            refine rows_spec (σ := lnS ks) rfl hk (by omega) hne (by omega) fun c hc => ?_
            have hrl := rowsN_le (ks.drop (i + 1))
            rw [← hc, List.length_drop] at hrl
            obtain ⟨r1, r2, r3⟩ := hrl
            have hfl := firstF_len ef
            repeat ((with_reducible first | apply opt_in | apply wI | apply wT | apply wP | apply wS | apply wB); exact rfl)
            refine opt_in (ln_at (off := 0) (len := n) rfl hk (by omega)) ?_
            rw [Nat.zero_add]
            refine opt_in (ln_load rfl hk gl) (isS_in ?_)
            refine opt_in (ln_at (off := 0) (len := n) rfl hk (by omega)) ?_
            rw [Nat.zero_add]
            refine opt_in (ln_load rfl hk gl) (isS_in ?_)
            refine bare_spec (by omega) (isS_in ⟨?_, ?_, ?_⟩)
            · refine opt_in (ln_at (off := 0) (len := n) rfl hk (by omega)) ?_
              rw [Nat.zero_add]
            · exact opt_in (ln_load rfl hk gl) rfl
            have hbd := bare_drop l
            refine opt_in (slice_drop (bareB_len l)) (isS_in ?_)
            have t1 := tell_len (a := x') (n := c.2.1) (by omega) (by omega)
            have t2 := tell_len (a := y') (n := c.2.2) (by omega) (by omega)
            refine ranged_spec L (by omega) (by omega) (isS_in ?_)
            have k1 : ([64, 64, 32, 45] ++ tellF x' c.2.1 : Ln).length ≤ 45 := by rw [List.length_append]; simp only [List.length_cons, List.length_nil]; omega
            have k2 : (([64, 64, 32, 45] ++ tellF x' c.2.1) ++ [32, 43] : Ln).length ≤ 47 := by rw [List.length_append]; simp only [List.length_cons, List.length_nil]; omega
            have k3 : ((([64, 64, 32, 45] ++ tellF x' c.2.1) ++ [32, 43]) ++ tellF y' c.2.2 : Ln).length ≤ 88 := by rw [List.length_append]; omega
            have k4 : (((([64, 64, 32, 45] ++ tellF x' c.2.1) ++ [32, 43]) ++ tellF y' c.2.2) ++ [32, 64, 64] : Ln).length ≤ 91 := by rw [List.length_append]; simp only [List.length_cons, List.length_nil]; omega
            have k5 : ((((([64, 64, 32, 45] ++ tellF x' c.2.1) ++ [32, 43]) ++ tellF y' c.2.2) ++ [32, 64, 64]) ++ t : Ln).length ≤ 91 + 4194304 := by rw [List.length_append]; omega
            refine ⟨by simp only [List.length_cons, List.length_nil]; omega, by simp only [List.length_cons, List.length_nil]; omega, ?_⟩
            refine ranged_spec L (by omega) (by omega) (isS_in ⟨by omega, by simp only [List.length_cons, List.length_nil]; omega, by omega, by omega, ?_⟩)
            refine opt_in (ln_at (off := 0) (len := n) rfl hk (by omega)) ?_
            rw [Nat.zero_add]
            refine opt_in (ln_store (σ := lnS ks) (i := 0) rfl hk gl) ?_
            have e1 : (((((([64, 64, 32, 45] ++ tellF x' c.2.1) ++ [32, 43]) ++ tellF y' c.2.2) ++ [32, 64, 64]) ++ t) ++ l.drop (bareB l).length : Ln) = lineF l x' y' c.2.1 c.2.2 t := rfl
            have e2 : (lineF l x' y' c.2.1 c.2.2 t).length ≤ 8388608 := by rw [← e1, List.length_append]; omega
            rw [e1]
            have ew : IntKind.wrap .i64 ((i : Int) + IntKind.wrap .i64 ((c.1 : Int) + 1)) = ((i + 1 + c.1 : Nat) : Int) := by
              rw [wrap_i64 (n := (c.1 : Int) + 1) (by omega) (by omega), wrap_i64 (by omega) (by omega)]; omega
            rw [ew]
            have hsl : (ks.set i (lineF l x' y' c.2.1 c.2.2 t)).length = n := by rw [List.length_set]; exact hk
            have hdr : (ks.set i (lineF l x' y' c.2.1 c.2.2 t)).drop (i + 1 + c.1) = ks.drop (i + 1 + c.1) := List.drop_set_of_lt (by omega)
            have hne2 : lineF l x' y' c.2.1 c.2.2 t ≠ [] := by rw [← e1]; simp
            refine rec_loop L hn join q true (i + 1 + c.1) _ hsl (by omega) (by omega) (fun z hz => ?_) (fun z hz => ?_) (fun z hz => ?_) ?_
            · rcases List.mem_or_eq_of_mem_set hz with h9 | h9
              · exact hne z h9
              · rw [h9]; exact hne2
            · rcases List.mem_or_eq_of_mem_set hz with h9 | h9
              · exact hlen z h9
              · rw [h9]; exact e2
            · rw [hdr] at hz
              refine hold z ?_
              rw [show i + 1 + c.1 = i + (1 + c.1) by omega, ← List.drop_drop] at hz
              exact List.mem_of_mem_drop hz
            · rw [hd] at h hP
              rw [recF_yes h ef, ← hc] at hP
              have htk3 : (ks.set i (lineF l x' y' c.2.1 c.2.2 t)).take (i + 1 + c.1) = ks.take i ++ (lineF l x' y' c.2.1 c.2.2 t :: (ks.drop (i + 1)).take c.1) := by
                have hs : ks.set i (lineF l x' y' c.2.1 c.2.2 t) = ks.take i ++ lineF l x' y' c.2.1 c.2.2 t :: ks.drop (i + 1) := by rw [List.set_eq_take_append_cons_drop, if_pos hlt]
                have hti : (ks.take i).length = i := by rw [List.length_take]; omega
                rw [hs, List.take_append, hti, List.take_of_length_le (by omega), show i + 1 + c.1 - i = c.1 + 1 by omega, List.take_succ_cons]
              have hdd : (ks.drop (i + 1)).drop c.1 = ks.drop (i + 1 + c.1) := List.drop_drop
              rw [hdd] at hP
              rw [hdr, htk3, List.append_assoc, List.cons_append]
              exact hP
        refine opt_in (ln_at (off := 0) (len := n) rfl hk (by omega)) ?_
        rw [Nat.zero_add]
        refine opt_in (ln_load rfl hk gl) (isS_in ?_)
        refine first_spec L (by omega) (fun x y t e => ?_) (fun e x y t => ?_)
        · repeat ((with_reducible first | apply opt_in | apply wI | apply wT | apply wP | apply wS | apply wB); exact rfl)
          cases b with
          | true =>
            rw [show (!true) = false from rfl, condB_false']
            exact h41 _ _ _ _ (fun _ => ⟨rfl, x, y, rfl, rfl, e⟩) nofun
          | false =>
            rw [show (!false) = true from rfl, condB_true']
            exact h41 _ _ _ _ nofun (fun _ => rfl)
        · repeat ((with_reducible first | apply opt_in | apply wI | apply wT | apply wP | apply wS | apply wB); exact rfl)
          cases b with
          | true =>
            rw [show (!true) = false from rfl, condB_false']
            exact h41 _ _ _ _ nofun (fun _ => by rw [if_pos rfl]; exact e)
          | false =>
            rw [show (!false) = true from rfl, condB_true']
            exact h41 _ _ _ _ nofun (fun _ => rfl)
    · refine join ks hk hlen ?_
      rw [List.drop_eq_nil_of_le (by omega), List.take_of_length_le (by omega)] at hP
      simpa [recF] using hP
end
end Go.Sv
