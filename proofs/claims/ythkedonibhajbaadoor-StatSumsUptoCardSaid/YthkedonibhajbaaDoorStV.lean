/- Counts put together by name: as plain data, and what stat.Sum answers. -/
import Derived.Test.YthkedonibhajbaaDoorFnJ
import Derived.Test.YthkedonibhajbaaDoorStG
set_option linter.unusedVariables false
set_option linter.unusedSimpArgs false
set_option maxRecDepth 100000
namespace Go.Sv
open Go Go.RowKit Go.Proofs
/-- Where a name stands. -/
def ixOf (s : List UInt8) : List Cnt → Option Nat
  | [] => none
  | c :: r => if s = c.nm then some 0 else (ixOf s r).map (· + 1)
def plusC (o c : Cnt) : Cnt := ⟨o.nm, IntKind.wrap .i64 (o.a + c.a), IntKind.wrap .i64 (o.d + c.d)⟩
def addTo (out : List Cnt) (c : Cnt) : List Cnt := match ixOf c.nm out with
  | none => out ++ [c]
  | some k => match out[k]? with
    | some o => out.set k (plusC o c)
    | none => out
def sumL (l : List Cnt) : List Cnt := l.foldl addTo []
def mapF : List Cnt → Nat → List (PV × AV)
  | [], _ => []
  | c :: r, i => (.str c.nm, .pv (.int .i64 (i : Nat))) :: mapF r (i + 1)
theorem ixOf_lt : ∀ (out : List Cnt) (s : List UInt8) (k : Nat), ixOf s out = some k → ∃ o, out[k]? = some o ∧ o.nm = s
  | [], s, k, h => by simp [ixOf] at h
  | c :: r, s, k, h => by
    unfold ixOf at h
    split at h
    · rename_i e
      cases h
      exact ⟨c, rfl, e.symm⟩
    · cases hr : ixOf s r with
      | none => rw [hr] at h; cases h
      | some j =>
        rw [hr] at h
        cases h
        obtain ⟨o, h1, h2⟩ := ixOf_lt r s j hr
        exact ⟨o, by simpa using h1, h2⟩
theorem mFind_mapF (s : List UInt8) : ∀ (out : List Cnt) (i j : Nat), mFind .str (.str s) (mapF out i) j = some ((ixOf s out).map fun k => (j + k, .pv (.int .i64 ((i + k : Nat) : Int))))
  | [], i, j => rfl
  | c :: r, i, j => by
    unfold mapF mFind ixOf
    by_cases h : s = c.nm
    · subst h
      simp [keyEq]
    · have : keyEq .str (.str s) (.str c.nm) = some false := by simp [keyEq, h]
      rw [this, if_neg h]
      simp only
      rw [mFind_mapF s r (i + 1) (j + 1)]
      cases ixOf s r with
      | none => rfl
      | some k => simp [Nat.add_assoc, Nat.add_comm 1]
theorem mapF_append : ∀ (out : List Cnt) (c : Cnt) (i : Nat), mapF (out ++ [c]) i = mapF out i ++ [(.str c.nm, .pv (.int .i64 ((i + out.length : Nat) : Int)))]
  | [], c, i => rfl
  | b :: r, c, i => by
    simp only [List.cons_append, mapF]
    rw [mapF_append r c (i + 1)]
    simp only [List.length_cons, Nat.add_assoc, Nat.add_comm 1]
theorem mapF_set : ∀ (out : List Cnt) (k : Nat) (o o' : Cnt) (i : Nat), out[k]? = some o → o'.nm = o.nm → mapF (out.set k o') i = mapF out i
  | [], k, o, o', i, h, _ => by simp at h
  | b :: r, 0, o, o', i, h, he => by
    simp at h; subst h
    simp only [List.set_cons_zero, mapF, he]
  | b :: r, k + 1, o, o', i, h, he => by
    simp only [List.set_cons_succ, mapF]
    rw [mapF_set r k o o' (i + 1) (by simpa using h) he]
theorem set_length' (out : List Cnt) (k : Nat) (o : Cnt) : (out.set k o).length = out.length := List.length_set
theorem addTo_len (out : List Cnt) (c : Cnt) : (addTo out c).length ≤ out.length + 1 := by
  unfold addTo
  split
  · simp
  · split
    · rw [List.length_set]; omega
    · omega
section
variable {w0 : Base} {σ : Store} {R : AV → Store → Prop}
theorem look_map {σ : Store} {out : List Cnt} {s : List UInt8} (ho : σ[0]? = some (.mp (mapF out 0))) : aLookup σ tabS ti78.td (.mref 0) (.pv (.str s)) true = some (match ixOf s out with
    | some k => .tup [.pv (.int .i64 (k : Nat)), .pv (.bool true)]
    | none => .tup [.pv (.int .i64 0), .pv (.bool false)]) := by
  have h := mFind_mapF s out 0 0
  simp only [aLookup, ti78_td, tab9, tab3, ho, ti9_td, isKeyP, h]
  cases ixOf s out with
  | none => rfl
  | some k => simp
theorem upd_map {σ : Store} {out : List Cnt} {c : Cnt} (ho : σ[0]? = some (.mp (mapF out 0))) (hn : ixOf c.nm out = none) : aMapUpd σ tabS ti78.td (.mref 0) (.pv (.str c.nm)) (.pv (.int .i64 (out.length : Nat))) = some (σ.set 0 (.mp (mapF (out ++ [c]) 0))) := by
  have h := mFind_mapF c.nm out 0 0
  rw [hn] at h
  simp only [aMapUpd, ti78_td, tab9, ho, ti9_td, isKeyP, h, Option.map_none, mapF_append, Nat.zero_add]
/-- The store of stat.Sum: the map, what it has put together. -/
abbrev sumS (out : List Cnt) : Store := [.mp (mapF out 0), .arr 3 (out.map cntP) false]
abbrev sumA (out : List Cnt) : AV := .arr 1 out.length 0 out.length
theorem mapF_unders (k : Nat) : ∀ (out : List Cnt) (i : Nat), AV.unders k ((mapF out i).map (·.2)) = true
  | [], i => rfl
  | c :: r, i => by
    have := mapF_unders k r (i + 1)
    simp only [mapF, List.map_cons, AV.unders, AV.under, this, Bool.and_true]
theorem sumS_wf (out : List Cnt) : wfS (sumS out) := by
  show (AV.unders 2 ((mapF out 0).map (·.2)) && true) = true
  rw [mapF_unders]; rfl
theorem sum_loop (L : Laid w0.w) (l : List Cnt) (hx : l.length ≤ 65536) : ∀ (r : List Cnt) (k : Nat) (out : List Cnt), (l.map cntP).drop k = r.map cntP → out.length + r.length ≤ 65536 →
    stat_Sum.n20 (stat_Sum.X w0 0) w0 0 (fun r' _ => r' = .tup [cntsA (r.foldl addTo out), .pv (.raw .nilIface)]) (sumS out) (sumA out) (.mref 0) (cntsA l) ((l.map cntP).length) k
  | [], k, out, h, ho => by
    have hk := drop_end h
    refine stat_Sum.n20_in ?_
    rw [stat_Sum.b21_eq, condB_decide, if_neg (by omega)]
    refine stat_Sum.n47_in ?_
    rw [stat_Sum.b47_eq]
    refine fin_seal (σ := []) (L := sumS out) glob0 rfl (r' := .tup [cntsA out, .pv (.raw .nilIface)]) ?_ rfl
    have e : sealV 0 ([] ++ sumS out) (sumA out) = some (cntsA out) := by
      show (if (out.map cntP).length = out.length ∧ 0 + out.length ≤ out.length then some (AV.pv (.sl (((out.map cntP).drop 0).take out.length))) else none) = _
      rw [if_pos ⟨List.length_map _, by omega⟩]
      simp [List.take_of_length_le]
    show (match sealV 0 ([] ++ sumS out) (sumA out), sealVs 0 ([] ++ sumS out) [.pv (.raw .nilIface)] with
      | some b, some s => some (b :: s)
      | _, _ => none).map AV.tup = _
    rw [e]
    rfl
  | c :: r, k, out, h, ho => by
    obtain ⟨h1, h2, hk⟩ := drop_facts h
    have hl : (l.map cntP).length = l.length := List.length_map _
    simp only [List.length_cons] at ho
    have next : ∀ out' Z, out' = addTo out c → stat_Sum.n46 (stat_Sum.X w0 0) w0 0 (fun r' _ => r' = .tup [cntsA ((c :: r).foldl addTo out), .pv (.raw .nilIface)]) (sumS out' ++ Z) (sumA out') (.mref 0) (cntsA l) ((l.map cntP).length) k := by
      rintro out' Z rfl
      refine stat_Sum.n46_in ?_
      rw [stat_Sum.b46_eq, wrap_next hk (by omega)]
      refine stat_Sum.n20_weak (EWeak.drop (τ := sumS (addTo out c)) (L := Z) glob0 (Nat.zero_le _) (sumS_wf _) rfl) (sum_loop L l hx r (k + 1) (addTo out c) h2 (by have := addTo_len out c; omega))
    refine stat_Sum.n20_in ?_
    rw [stat_Sum.b21_eq, condB_decide, if_pos (by omega)]
    refine opt_in (idx_ro tab48 h1 rfl) ?_
    repeat (first | ((with_reducible show opt _ _); refine opt_in rfl ?_) | ((with_reducible show isI _ _ _); refine isI_in ?_) | ((with_reducible show isTup _ _); refine isTup_in ?_) | ((with_reducible show isS _ _); refine isS_in ?_) | ((with_reducible show isB _ _); refine isB_in ?_))
    refine opt_in (look_map rfl) ?_
    cases hi : ixOf c.nm out with
    | none =>
      repeat (first | ((with_reducible show opt _ _); refine opt_in rfl ?_) | ((with_reducible show isI _ _ _); refine isI_in ?_) | ((with_reducible show isTup _ _); refine isTup_in ?_) | ((with_reducible show isS _ _); refine isS_in ?_) | ((with_reducible show isB _ _); refine isB_in ?_))
      refine condB_split (fun _ => ?_) (fun h => by cases h)
      repeat (first | ((with_reducible show opt _ _); refine opt_in rfl ?_) | ((with_reducible show isI _ _ _); refine isI_in ?_) | ((with_reducible show isTup _ _); refine isTup_in ?_) | ((with_reducible show isS _ _); refine isS_in ?_) | ((with_reducible show isB _ _); refine isB_in ?_))
      refine opt_in (upd_map rfl hi) ?_
      repeat (first | ((with_reducible show opt _ _); refine opt_in rfl ?_) | ((with_reducible show isI _ _ _); refine isI_in ?_) | ((with_reducible show isTup _ _); refine isTup_in ?_) | ((with_reducible show isS _ _); refine isS_in ?_) | ((with_reducible show isB _ _); refine isB_in ?_))
      refine opt2_in rfl ?_
      refine opt2_in (append_pv (xs := out.map cntP) (ys := [cntP c]) rfl rfl (by simp) rfl rfl ?_) ?_
      · rw [List.length_map]
        show (out.length + 1 ≤ _ ∧ (out.length + 1) * 32 ≤ _)
        omega
      have e : addTo out c = out ++ [c] := by unfold addTo; rw [hi]
      have := next (out ++ [c]) [.cells 48 [.pv (.str c.nm), .pv (.int .i64 c.a), .pv (.int .i64 c.d)]] e.symm
      rw [show sumA (out ++ [c]) = .arr 1 ((out.map cntP).length + [cntP c].length) 0 ((out.map cntP).length + [cntP c].length) by simp [sumA], show sumS (out ++ [c]) = [SObj.mp (mapF (out ++ [c]) 0), .arr 3 (out.map cntP ++ [cntP c]) false] by simp only [sumS, List.map_append, List.map_cons, List.map_nil]] at this
      exact this
    | some j =>
      obtain ⟨o, ho1, ho2⟩ := ixOf_lt out c.nm j hi
      have hjl : j < out.length := (List.getElem?_eq_some_iff.1 ho1).1
      have hj : (out.map cntP)[j]? = some (cntP o) := by rw [List.getElem?_map, ho1]; rfl
      repeat (first | ((with_reducible show opt _ _); refine opt_in rfl ?_) | ((with_reducible show isI _ _ _); refine isI_in ?_) | ((with_reducible show isTup _ _); refine isTup_in ?_) | ((with_reducible show isS _ _); refine isS_in ?_) | ((with_reducible show isB _ _); refine isB_in ?_))
      refine condB_split (fun h => by cases h) (fun _ => ?_)
      refine opt_in (idx_arr (xs := out.map cntP) tab48 rfl hjl rfl (List.length_map _)) ?_
      refine opt_in (v := .eptr 1 out.length (0 + j) (0 + 1)) rfl ?_
      rw [Nat.zero_add j]
      refine opt_in (load_eptr (xs := out.map cntP) rfl (List.length_map _) hj rfl rfl) (isI_in ?_)
      repeat (first | ((with_reducible show opt _ _); refine opt_in rfl ?_) | ((with_reducible show isI _ _ _); refine isI_in ?_) | ((with_reducible show isTup _ _); refine isTup_in ?_) | ((with_reducible show isS _ _); refine isS_in ?_) | ((with_reducible show isB _ _); refine isB_in ?_))
      refine opt_in (idx_arr (xs := out.map cntP) tab48 rfl hjl rfl (List.length_map _)) ?_
      refine opt_in (v := .eptr 1 out.length (0 + j) (0 + 1)) rfl ?_
      rw [Nat.zero_add j]
      refine opt_in (store_eptr (xs := out.map cntP) rfl (List.length_map _) hj rfl rfl rfl (by simp)) ?_
      have hj' : ((out.map cntP).set j (.agg (splice [.str o.nm, .int .i64 o.a, .int .i64 o.d] (0 + 1) [.int .i64 (IntKind.wrap .i64 (o.a + c.a))])))[j]? = some (.agg [.str o.nm, .int .i64 (IntKind.wrap .i64 (o.a + c.a)), .int .i64 o.d]) := by
        rw [List.getElem?_set_self (by simpa using hjl)]; rfl
      refine opt_in (idx_arr (xs := (out.map cntP).set j _) tab48 rfl hjl rfl (by simp)) ?_
      refine opt_in (v := .eptr 1 out.length (0 + j) (0 + 2)) rfl ?_
      rw [Nat.zero_add j]
      refine opt_in (load_eptr (xs := (out.map cntP).set j _) rfl (by simp) hj' rfl rfl) (isI_in ?_)
      repeat (first | ((with_reducible show opt _ _); refine opt_in rfl ?_) | ((with_reducible show isI _ _ _); refine isI_in ?_) | ((with_reducible show isTup _ _); refine isTup_in ?_) | ((with_reducible show isS _ _); refine isS_in ?_) | ((with_reducible show isB _ _); refine isB_in ?_))
      refine opt_in (idx_arr (xs := (out.map cntP).set j _) tab48 rfl hjl rfl (by simp)) ?_
      refine opt_in (v := .eptr 1 out.length (0 + j) (0 + 2)) rfl ?_
      rw [Nat.zero_add j]
      refine opt_in (store_eptr (xs := (out.map cntP).set j _) rfl (by simp) hj' rfl rfl rfl (by simp)) ?_
      have e : addTo out c = out.set j (plusC o c) := by unfold addTo; rw [hi]; simp only [ho1]
      have := next (out.set j (plusC o c)) [.cells 48 [.pv (.str c.nm), .pv (.int .i64 c.a), .pv (.int .i64 c.d)]] e.symm
      rw [List.set_set, List.set_set]
      have em : (out.set j (plusC o c)).map cntP = (out.map cntP).set j (cntP (plusC o c)) := by rw [List.map_set]
      rw [show sumA (out.set j (plusC o c)) = sumA out by simp [sumA], show sumS (out.set j (plusC o c)) = [SObj.mp (mapF out 0), .arr 3 ((out.map cntP).set j (cntP (plusC o c))) false] by simp only [sumS, em, mapF_set out j o (plusC o c) 0 ho1 rfl]] at this
      exact this
end
end Go.Sv
