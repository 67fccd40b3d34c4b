/- The document's hunks of a script (selvageref10.Build), and the law StatCosts over stores. -/
import Derived.Test.YthkedonibhajbaaGreatDoorCoD
import Derived.Test.YthkedonibhajbaaGreatDoorStU
import Derived.Test.YthkedonibhajbaaGreatDoorStM
import Derived.Test.YthkedonibhajbaaGreatDoorStA
import Derived.Test.YthkedonibhajbaaGreatDoorSvBk
set_option linter.unusedVariables false
set_option linter.unusedSimpArgs false
set_option maxRecDepth 100000
namespace Go.Sv
open Go Go.RowKit Go.Proofs
def wEq (A B : List (List UInt8)) (p : Nat × Nat) : Bool := wholeB (A.getD p.1 []) == wholeB (B.getD p.2 [])
theorem wEq_W {A B : List (List UInt8)} {p : Nat × Nat} (h : wEq A B p = true) : W A B p.1 p.2 := by
  intro t u ht hu
  have := eq_of_beq h
  rw [List.getD_eq_getElem?_getD, List.getD_eq_getElem?_getD, ht, hu] at this
  exact this
theorem incr_mem {N M : Nat} : ∀ {l : List (Nat × Nat)} {a b : Nat}, incr N M l a b → ∀ p ∈ l, p.1 < N ∧ p.2 < M
  | [], a, b, h, p, hp => by simp at hp
  | q :: r, a, b, h, p, hp => by
    obtain ⟨h1, h2, h3, h4, h5⟩ := h
    rcases List.mem_cons.1 hp with rfl | hp
    · exact ⟨h3, h4⟩
    · exact incr_mem h5 p hp
section
variable {w0 : Base} {σ : Store} {R : AV → Store → Prop}
abbrev bErr (e : Int) : AV := .tup [.pv (.sl []), .pv (.int .i64 e)]
theorem chk_loop (L : Laid w0.w) (A B : List (List UInt8)) (hA : ∀ t ∈ A, t.length ≤ 1048576) (hB : ∀ t ∈ B, t.length ≤ 1048576) (ctx : Int) (ts : AV) (v : AV) (xs : List PV) (hx : xs.length ≤ 8388608) : ∀ (r : List (Nat × Nat)) (i : Nat), xs.drop i = r.map pairP → (∀ p ∈ r, p.1 < A.length ∧ p.2 < B.length) →
    (r.all (wEq A B) = false → v = bErr 61) → (r.all (wEq A B) = true → selvageref10_Build.n51 (selvageref10_Build.X w0 0) w0 0 (fun r' _ => r' = v) [] (.pv (strsP A)) (.pv (strsP B)) ctx ts) →
    selvageref10_Build.n34 (selvageref10_Build.X w0 0) w0 0 (fun r' _ => r' = v) [] (.pv (strsP A)) (.pv (strsP B)) ctx ts (.pv (.sl xs)) i := by
  intro r
  induction r with
  | nil =>
    intro i h hb h1 h2
    have hk := drop_end h
    refine selvageref10_Build.n34_in ?_
    rw [selvageref10_Build.b35_eq]
    repeat (first | ((with_reducible show opt _ _); refine opt_in rfl ?_) | ((with_reducible show isI _ _ _); refine isI_in ?_) | ((with_reducible show isTup _ _); refine isTup_in ?_) | ((with_reducible show isS _ _); refine isS_in ?_) | ((with_reducible show isB _ _); refine isB_in ?_))
    rw [condB_decide, if_neg (by omega)]
    exact h2 rfl
  | cons p r ih =>
    intro i h hb h1 h2
    obtain ⟨g1, g2, hk⟩ := drop_facts h
    obtain ⟨p1, p2⟩ := hb p (by simp)
    have idx : ∀ σ, aIndexAddr σ tabS ti42.td (.pv (.sl xs)) (i : Int) = some (.ro (pairP p) 0) := fun σ => idx_ro tab46 g1 rfl
    obtain ⟨t, ht⟩ : ∃ t, A[p.1]? = some t := ⟨_, List.getElem?_eq_getElem p1⟩
    obtain ⟨u, hu⟩ : ∃ t, B[p.2]? = some t := ⟨_, List.getElem?_eq_getElem p2⟩
    have hta : (A.map PV.str)[p.1]? = some (.str t) := by rw [List.getElem?_map, ht]; rfl
    have hub : (B.map PV.str)[p.2]? = some (.str u) := by rw [List.getElem?_map, hu]; rfl
    have idA : ∀ σ, aIndexAddr σ tabS ti23.td (.pv (strsP A)) (p.1 : Int) = some (.ro (.str t) 0) := fun σ => idx_ro tab9 hta rfl
    have idB : ∀ σ, aIndexAddr σ tabS ti23.td (.pv (strsP B)) (p.2 : Int) = some (.ro (.str u) 0) := fun σ => idx_ro tab9 hub rfl
    have hw : wEq A B p = (wholeB t == wholeB u) := by
      unfold wEq
      rw [List.getD_eq_getElem?_getD, List.getD_eq_getElem?_getD, ht, hu]; rfl
    have lt := hA t (List.mem_of_getElem? ht)
    have lu := hB u (List.mem_of_getElem? hu)
    refine selvageref10_Build.n34_in ?_
    rw [selvageref10_Build.b35_eq]
    repeat (first | ((with_reducible show opt _ _); refine opt_in rfl ?_) | ((with_reducible show isI _ _ _); refine isI_in ?_) | ((with_reducible show isTup _ _); refine isTup_in ?_) | ((with_reducible show isS _ _); refine isS_in ?_) | ((with_reducible show isB _ _); refine isB_in ?_))
    rw [condB_decide, if_pos (by omega)]
    refine opt_in (idx _) ?_
    repeat (first | ((with_reducible show opt _ _); refine opt_in rfl ?_) | ((with_reducible show isI _ _ _); refine isI_in ?_) | ((with_reducible show isTup _ _); refine isTup_in ?_) | ((with_reducible show isS _ _); refine isS_in ?_) | ((with_reducible show isB _ _); refine isB_in ?_))
    refine opt_in (idA _) ?_
    repeat (first | ((with_reducible show opt _ _); refine opt_in rfl ?_) | ((with_reducible show isI _ _ _); refine isI_in ?_) | ((with_reducible show isTup _ _); refine isTup_in ?_) | ((with_reducible show isS _ _); refine isS_in ?_) | ((with_reducible show isB _ _); refine isB_in ?_))
    refine opt_in (idx _) ?_
    repeat (first | ((with_reducible show opt _ _); refine opt_in rfl ?_) | ((with_reducible show isI _ _ _); refine isI_in ?_) | ((with_reducible show isTup _ _); refine isTup_in ?_) | ((with_reducible show isS _ _); refine isS_in ?_) | ((with_reducible show isB _ _); refine isB_in ?_))
    refine opt_in (idB _) ?_
    repeat (first | ((with_reducible show opt _ _); refine opt_in rfl ?_) | ((with_reducible show isI _ _ _); refine isI_in ?_) | ((with_reducible show isTup _ _); refine isTup_in ?_) | ((with_reducible show isS _ _); refine isS_in ?_) | ((with_reducible show isB _ _); refine isB_in ?_))
    refine rwhole_spec (by omega) (isB_in ⟨opt_in (idx _) rfl, opt_in rfl rfl, opt_in rfl rfl, opt_in (idB _) rfl, opt_in rfl rfl, ?_⟩)
    refine rwhole_spec (by omega) (isB_in ?_)
    rw [neq_bool]
    refine opt_in rfl (opt_in (v := (wholeB t == wholeB u)) rfl (isB_in ?_))
    rw [condB_not]
    rw [← hw]
    refine condB_split ?_ ?_
    · intro g
      rw [wrap_next hk (by omega)]
      refine ih (i + 1) g2 (fun q hq => hb q (List.mem_cons_of_mem _ hq)) (fun e => h1 ?_) (fun e => h2 ?_)
      · rw [List.all_cons, g, e]; rfl
      · rw [List.all_cons, g, e]; rfl
    · intro g
      refine fin_seal (σ := []) (L := []) glob0 rfl (r' := bErr 61) rfl ?_
      exact (h1 (by rw [List.all_cons, g]; rfl)).symm
abbrev bldS (hs : List Hnk) : Store := [.arr 6 (hs.map hnkP) false]
abbrev bldA (hs : List Hnk) : AV := .arr 0 hs.length 0 hs.length
theorem slice_nc {σ : Store} {T : List NC} {x y : Nat} (hxy : x ≤ y) (hy : y ≤ T.length) : aSlice σ tabS ti22.td (.pv (.sl (T.map ncP))) (some (.pv (.int .i64 (x : Nat)))) (some (.pv (.int .i64 (y : Nat)))) = some (.pv (.sl ((seg T x y).map ncP))) := by
  have hs : sized ti48.size (T.map ncP) = true := by
    simp only [sized, List.all_eq_true]
    intro p hp
    obtain ⟨t, _, rfl⟩ := List.mem_map.1 hp
    rfl
  unfold aSlice
  simp only [lenA, bndA, asI, ti22_td, tab48, List.length_map]
  rw [if_pos ⟨by omega, by omega, by omega⟩, if_pos hs, Int.toNat_natCast, Int.toNat_natCast]
  unfold seg
  rw [List.map_drop, List.map_take]
theorem seg_cur {α : Type} {T : List α} {x : Nat} {cur rest : List α} (h : T.drop x = cur ++ rest) : seg T x (x + cur.length) = cur := by
  unfold seg
  rw [List.drop_take, show x + cur.length - x = cur.length by omega, h, List.take_left']
  rfl
theorem bld_seal (hs : List Hnk) : sealR 0 ([] ++ bldS hs) (.tup [bldA hs, .pv (.int .i64 0)]) = some (.tup [.pv (.sl (hs.map hnkP)), .pv (.int .i64 0)]) := by
  have e : sealV 0 ([] ++ bldS hs) (bldA hs) = some (.pv (.sl (hs.map hnkP))) := by
    show (if (hs.map hnkP).length = hs.length ∧ 0 + hs.length ≤ hs.length then some (AV.pv (.sl (((hs.map hnkP).drop 0).take hs.length))) else none) = _
    rw [if_pos ⟨List.length_map _, by omega⟩, List.drop_zero, List.take_of_length_le (by rw [List.length_map]; exact Nat.le_refl _)]
  show (match sealV 0 ([] ++ bldS hs) (bldA hs), sealEs 0 ([] ++ bldS hs) [.pv (.int .i64 0)] with
    | some b, some s => some (b :: s)
    | _, _ => none).map AV.tup = _
  rw [e]
  rfl
theorem grp_close (L : Laid w0.w) (A B : List (List UInt8)) (hAB : A.length + B.length ≤ 2097152) (ctx : Nat) (hctx : ctx ≤ 2147483647) (T : List NC) (hT : T.length ≤ 8388608) {c : NC} {r rest : List NC} {x pa pb : Nat} {hs : List Hnk} (hd : T.drop x = (c :: r) ++ rest) (h : chW A B ((c :: r) ++ rest) pa pb) (hp : pa ≤ c.a - ctx) (hz : far ctx (lastEnd (c :: r) 0) rest) (hh : hs.length + 1 ≤ 8388608) {R : AV → Store → Prop} (t : Bool) (ht : t = true)
    (hR : selvageref10_Build.n75 (selvageref10_Build.X w0 0) w0 0 R (bldS (hs ++ [oneN A B ctx (c :: r)])) (.pv (strsP A)) (.pv (strsP B)) ctx (.pv (.sl (T.map ncP))) (bldA (hs ++ [oneN A B ctx (c :: r)])) ((x + (c :: r).length : Nat) : Int) ((x + (c :: r).length : Nat) : Int)) :
    selvageref10_Build.n70 (selvageref10_Build.X w0 0) w0 0 R (bldS hs) (.pv (strsP A)) (.pv (strsP B)) ctx (.pv (.sl (T.map ncP))) (bldA hs) x ((x + (c :: r).length : Nat) : Int) t := by
  obtain ⟨hk, hcb⟩ := one_hk h hp hz
  have hlen : x + ((c :: r).length + rest.length) ≤ T.length := by
    have := congrArg List.length hd
    rw [List.length_drop, List.length_append, List.length_cons] at this
    simp only [List.length_cons]
    omega
  have hr : r.length ≤ 8388608 := by simp only [List.length_cons] at hlen; omega
  refine selvageref10_Build.n70_in ?_
  rw [selvageref10_Build.b70_eq]
  refine condB_split ?_ ?_
  · intro _
    refine opt_in (slice_nc (by omega) (by omega)) ?_
    rw [seg_cur hd]
    refine one_spec L hAB hctx hr hk hcb ?_
    refine opt2_in rfl ?_
    refine opt2_in (append_pv (xs := hs.map hnkP) (ys := [hnkP (oneN A B ctx (c :: r))]) rfl rfl (by simp) rfl rfl ?_) ?_
    · rw [List.length_map]
      show (hs.length + 1 ≤ _ ∧ (hs.length + 1) * 72 ≤ _)
      omega
    generalize oneN A B ctx (c :: r) = o at *
    rw [show bldA (hs ++ [o]) = .arr 0 ((hs.map hnkP).length + [hnkP o].length) 0 ((hs.map hnkP).length + [hnkP o].length) by simp [bldA], show bldS (hs ++ [o]) = [SObj.arr 6 (hs.map hnkP ++ [hnkP o]) false] by simp only [bldS, List.map_append, List.map_cons, List.map_nil]] at hR
    exact hR
  · intro g
    rw [ht] at g; cases g
theorem grp_loop (L : Laid w0.w) (A B : List (List UInt8)) (hAB : A.length + B.length ≤ 2097152) (ctx : Nat) (hctx : ctx ≤ 2147483647) (T : List NC) (hT : T.length ≤ 8388608) : ∀ (rest cur : List NC) (x pa pb : Nat) (hs : List Hnk), cur ≠ [] → T.drop x = cur ++ rest → chW A B (cur ++ rest) pa pb → (∀ c, cur.head? = some c → pa ≤ c.a - ctx) → hs.length + 1 + rest.length ≤ 8388608 →
    selvageref10_Build.n59 (selvageref10_Build.X w0 0) w0 0 (fun r' _ => r' = .tup [.pv (.sl ((hs ++ hunksN A B ctx cur rest).map hnkP)), .pv (.int .i64 0)]) (bldS hs) (.pv (strsP A)) (.pv (strsP B)) ctx (.pv (.sl (T.map ncP))) (bldA hs) x ((x + cur.length : Nat) : Int) := by
  intro rest
  induction rest with
  | nil =>
    intro cur x pa pb hs hc hd h hp hh
    obtain ⟨c, r, rfl⟩ : ∃ c r, cur = c :: r := by cases cur with
      | nil => exact absurd rfl hc
      | cons c r => exact ⟨c, r, rfl⟩
    have hlen : T.length = x + (c :: r).length := by
      have := congrArg List.length hd
      rw [List.length_drop, List.append_nil, List.length_cons] at this
      rw [List.length_cons]
      omega
    have hm : (T.map ncP).length = T.length := List.length_map _
    refine selvageref10_Build.n59_in ?_
    rw [selvageref10_Build.b60_eq]
    repeat (first | ((with_reducible show opt _ _); refine opt_in rfl ?_) | ((with_reducible show isI _ _ _); refine isI_in ?_) | ((with_reducible show isTup _ _); refine isTup_in ?_) | ((with_reducible show isS _ _); refine isS_in ?_) | ((with_reducible show isB _ _); refine isB_in ?_))
    rw [condB_decide, if_pos (by omega)]
    repeat (first | ((with_reducible show opt _ _); refine opt_in rfl ?_) | ((with_reducible show isI _ _ _); refine isI_in ?_) | ((with_reducible show isTup _ _); refine isTup_in ?_) | ((with_reducible show isS _ _); refine isS_in ?_) | ((with_reducible show isB _ _); refine isB_in ?_))
    rw [condB_ibeq, if_pos (by omega)]
    have key := fun t ht => grp_close L A B hAB ctx hctx T hT hd h (hp c rfl) (hs := hs) trivial (by simp only [List.length_nil] at hh; omega) (R := fun r' _ => r' = .tup [.pv (.sl ((hs ++ hunksN A B ctx (c :: r) []).map hnkP)), .pv (.int .i64 0)]) t ht ?_
    · have e : true = true := rfl
      revert e
      generalize hu : (true : Bool) = u
      intro _
      exact key u hu.symm
    · refine selvageref10_Build.n75_in ?_
      rw [selvageref10_Build.b75_eq, wrap_next (n := T.length + 1) (by omega) (by omega)]
      refine selvageref10_Build.n59_in ?_
      rw [selvageref10_Build.b60_eq]
      repeat (first | ((with_reducible show opt _ _); refine opt_in rfl ?_) | ((with_reducible show isI _ _ _); refine isI_in ?_) | ((with_reducible show isTup _ _); refine isTup_in ?_) | ((with_reducible show isS _ _); refine isS_in ?_) | ((with_reducible show isB _ _); refine isB_in ?_))
      rw [condB_decide, if_neg (by omega)]
      refine selvageref10_Build.n76_in ?_
      rw [selvageref10_Build.b76_eq]
      have e : hs ++ hunksN A B ctx (c :: r) [] = hs ++ [oneN A B ctx (c :: r)] := rfl
      rw [e]
      exact fin_seal (σ := []) (L := bldS (hs ++ [oneN A B ctx (c :: r)])) glob0 rfl (bld_seal _) rfl
  | cons d rest ih =>
    intro cur x pa pb hs hc hd h hp hh
    obtain ⟨c, r, rfl⟩ : ∃ c r, cur = c :: r := by cases cur with
      | nil => exact absurd rfl hc
      | cons c r => exact ⟨c, r, rfl⟩
    have hlen : T.length = x + (c :: r).length + (rest.length + 1) := by
      have := congrArg List.length hd
      rw [List.length_drop, List.length_append, List.length_cons, List.length_cons] at this
      rw [List.length_cons]
      omega
    have hm : (T.map ncP).length = T.length := List.length_map _
    obtain ⟨l, hl⟩ : ∃ l, (c :: r)[(c :: r).length - 1]? = some l := ⟨_, List.getElem?_eq_getElem (by simp)⟩
    have hend := lastEnd_get (c :: r) 0 l hl
    have ht := chW_tail (c :: r) (d :: rest) pa pb h
    have he : lastEnd (c :: r) pa = lastEnd (c :: r) 0 := rfl
    rw [he] at ht
    have ht1 := ht.1
    have hdA := ht.2.2.2.2.2.1
    have hTd : (T.map ncP)[x + (c :: r).length]? = some (ncP d) := by
      rw [List.getElem?_map, ← List.getElem?_drop, hd, List.getElem?_append_right (Nat.le_refl _), Nat.sub_self]; rfl
    have hTl : (T.map ncP)[x + (c :: r).length - 1]? = some (ncP l) := by
      rw [show x + (c :: r).length - 1 = x + ((c :: r).length - 1) by rw [List.length_cons]; omega, List.getElem?_map, ← List.getElem?_drop, hd, List.getElem?_append_left (by simp), hl]; rfl
    have idd : ∀ σ, aIndexAddr σ tabS ti22.td (.pv (.sl (T.map ncP))) ((x + (c :: r).length : Nat) : Int) = some (.ro (ncP d) 0) := fun σ => idx_ro tab48 hTd rfl
    have idl : ∀ σ, aIndexAddr σ tabS ti22.td (.pv (.sl (T.map ncP))) ((x + (c :: r).length - 1 : Nat) : Int) = some (.ro (ncP l) 0) := fun σ => idx_ro tab48 hTl rfl
    refine selvageref10_Build.n59_in ?_
    rw [selvageref10_Build.b60_eq]
    repeat (first | ((with_reducible show opt _ _); refine opt_in rfl ?_) | ((with_reducible show isI _ _ _); refine isI_in ?_) | ((with_reducible show isTup _ _); refine isTup_in ?_) | ((with_reducible show isS _ _); refine isS_in ?_) | ((with_reducible show isB _ _); refine isB_in ?_))
    rw [condB_decide, if_pos (by omega)]
    repeat (first | ((with_reducible show opt _ _); refine opt_in rfl ?_) | ((with_reducible show isI _ _ _); refine isI_in ?_) | ((with_reducible show isTup _ _); refine isTup_in ?_) | ((with_reducible show isS _ _); refine isS_in ?_) | ((with_reducible show isB _ _); refine isB_in ?_))
    rw [condB_ibeq, if_neg (by omega)]
    refine opt_in (idd _) ?_
    repeat (first | ((with_reducible show opt _ _); refine opt_in rfl ?_) | ((with_reducible show isI _ _ _); refine isI_in ?_) | ((with_reducible show isTup _ _); refine isTup_in ?_) | ((with_reducible show isS _ _); refine isS_in ?_) | ((with_reducible show isB _ _); refine isB_in ?_))
    rw [wrap_i64 (n := ((x + (c :: r).length : Nat) : Int) - 1) (by omega) (by omega), show ((x + (c :: r).length : Nat) : Int) - 1 = ((x + (c :: r).length - 1 : Nat) : Int) by rw [List.length_cons]; omega]
    refine opt_in (idl _) ?_
    repeat (first | ((with_reducible show opt _ _); refine opt_in rfl ?_) | ((with_reducible show isI _ _ _); refine isI_in ?_) | ((with_reducible show isTup _ _); refine isTup_in ?_) | ((with_reducible show isS _ _); refine isS_in ?_) | ((with_reducible show isB _ _); refine isB_in ?_))
    refine opt_in (idl _) ?_
    repeat (first | ((with_reducible show opt _ _); refine opt_in rfl ?_) | ((with_reducible show isI _ _ _); refine isI_in ?_) | ((with_reducible show isTup _ _); refine isTup_in ?_) | ((with_reducible show isS _ _); refine isS_in ?_) | ((with_reducible show isB _ _); refine isB_in ?_))
    rw [wrap_i64 (n := (l.a : Int) + (l.n : Nat)) (by omega) (by omega), wrap_i64 (n := (d.a : Int) - ((l.a : Int) + (l.n : Nat))) (by omega) (by omega), wrap_i64 (n := 2 * (ctx : Int)) (by omega) (by omega)]
    have key : ∀ t, t = decide (d.a - lastEnd (c :: r) 0 > 2 * ctx) → selvageref10_Build.n70 (selvageref10_Build.X w0 0) w0 0 (fun r' _ => r' = .tup [.pv (.sl ((hs ++ hunksN A B ctx (c :: r) (d :: rest)).map hnkP)), .pv (.int .i64 0)]) (bldS hs) (.pv (strsP A)) (.pv (strsP B)) ctx (.pv (.sl (T.map ncP))) (bldA hs) x ((x + (c :: r).length : Nat) : Int) t := by
      intro t htt
      have hun : hunksN A B ctx (c :: r) (d :: rest) = if d.a - lastEnd (c :: r) 0 > 2 * ctx then oneN A B ctx (c :: r) :: hunksN A B ctx [d] rest else hunksN A B ctx ((c :: r) ++ [d]) rest := by rw [hunksN]
      by_cases hg : d.a - lastEnd (c :: r) 0 > 2 * ctx
      · rw [hun, if_pos hg]
        refine grp_close L A B hAB ctx hctx T hT hd h (hp c rfl) (hs := hs) hg (by omega) t (by rw [htt]; exact decide_eq_true hg) ?_
        refine selvageref10_Build.n75_in ?_
        rw [selvageref10_Build.b75_eq, wrap_next (n := T.length) (by omega) (by omega)]
        have hd2 : T.drop (x + (c :: r).length) = [d] ++ rest := by
          rw [← List.drop_drop, hd, List.drop_left']
          · rfl
          · rfl
        have := ih [d] (x + (c :: r).length) _ _ (hs ++ [oneN A B ctx (c :: r)]) (by simp) hd2 ht (fun q hq => by simp at hq; subst hq; omega) (by simp only [List.length_append, List.length_cons, List.length_nil] at hh ⊢; omega)
        rw [List.append_assoc] at this
        exact this
      · rw [hun, if_neg hg]
        refine selvageref10_Build.n70_in ?_
        rw [selvageref10_Build.b70_eq]
        refine condB_split ?_ ?_
        · intro g
          rw [htt] at g
          exact absurd (of_decide_eq_true g) hg
        · intro g
          refine selvageref10_Build.n75_in ?_
          rw [selvageref10_Build.b75_eq, wrap_next (n := T.length) (by omega) (by omega)]
          have e : (c :: r) ++ d :: rest = ((c :: r) ++ [d]) ++ rest := by simp
          rw [e] at hd h
          have := ih ((c :: r) ++ [d]) x pa pb hs (by simp) hd h (fun q hq => hp q (by simpa using hq)) (by simp only [List.length_cons] at hh; omega)
          rw [show (((c :: r) ++ [d]).length) = (c :: r).length + 1 by simp, ← Nat.add_assoc] at this
          exact this
    have e : decide ((d.a : Int) - ((l.a : Int) + (l.n : Nat)) > 2 * (ctx : Int)) = decide (d.a - lastEnd (c :: r) 0 > 2 * ctx) := by
      rw [decide_eq_decide, hend]
      rw [hend] at ht1
      omega
    revert e
    generalize (decide ((d.a : Int) - ((l.a : Int) + (l.n : Nat)) > 2 * (ctx : Int))) = u
    intro e
    exact key u e
abbrev bldArgs (s : List Chg) (A B : List (List UInt8)) (ctx : Int) : List AV := [.pv (.sl (s.map chgP)), .pv (strsP A), .pv (strsP B), .pv (.int .i64 ctx)]
theorem bld_in (L : Laid w0.w) {s : List Chg} {A B : List (List UInt8)} (hA : A.length ≤ 1048576) (hB : B.length ≤ 1048576) (tA : ∀ t ∈ A, t.length ≤ 1048576) (tB : ∀ t ∈ B, t.length ≤ 1048576) {ctx : Int} (v : AV) (h1 : (ctx < 0 ∨ ctx > 2147483647) → v = bErr 1)
    (h2 : ¬ (ctx < 0 ∨ ctx > 2147483647) → ∀ t, t = !(vT A && vT B) → selvageref10_Build.n13 (selvageref10_Build.X w0 0) w0 0 (fun r' _ => r' = v) [] (.pv (.sl (s.map chgP))) (.pv (strsP A)) (.pv (strsP B)) ctx t) : SCalls (cx w0) selvageref10_Build.id (bldArgs s A B ctx) [] fun r' _ => r' = v := by
  have key : ∀ t, t = decide (ctx < 0 ∨ ctx > 2147483647) → selvageref10_Build.n5 (selvageref10_Build.X w0 0) w0 0 (fun r' _ => r' = v) [] (.pv (.sl (s.map chgP))) (.pv (strsP A)) (.pv (strsP B)) ctx t := by
    intro t ht
    refine selvageref10_Build.n5_in ?_
    rw [selvageref10_Build.b5_eq]
    refine condB_split ?_ ?_
    · intro g
      rw [ht] at g
      refine fin_seal (σ := []) (L := []) glob0 rfl (r' := bErr 1) rfl ?_
      exact (h1 (of_decide_eq_true g)).symm
    · intro g
      rw [ht] at g
      have h2' := h2 (of_decide_eq_false g)
      refine rvT_spec L (by omega) (fun t ht => Nat.le_trans (tA t ht) (by decide)) (isB_in ?_)
      rw [condB_not]
      refine condB_split ?_ ?_
      · intro ga
        refine rvT_spec L (by omega) (fun t ht => Nat.le_trans (tB t ht) (by decide)) (isB_in ?_)
        have e : (!vT B) = !(vT A && vT B) := by rw [ga, Bool.true_and]
        revert e
        generalize (!vT B) = u
        intro e
        exact h2' u e
      · intro ga
        have e : true = !(vT A && vT B) := by rw [ga]; rfl
        revert e
        generalize (true : Bool) = u
        intro e
        exact h2' u e
  refine selvageref10_Build.calls ?_
  rw [selvageref10_Build.b0_eq]
  refine condB_split ?_ ?_
  · intro g
    have e : true = decide (ctx < 0 ∨ ctx > 2147483647) := (decide_eq_true (.inl (of_decide_eq_true g))).symm
    revert e
    generalize (true : Bool) = u
    intro e
    exact key u e
  · intro g
    have g' := of_decide_eq_false g
    have e : decide (ctx > 2147483647) = decide (ctx < 0 ∨ ctx > 2147483647) := by
      rw [decide_eq_decide]; omega
    revert e
    generalize (decide (ctx > 2147483647)) = u
    intro e
    exact key u e
theorem chain_len {N M : Nat} : ∀ (s : List NC) (a b : Nat), chain N M s a b → s.length ≤ sumn s + summ s
  | [], _, _, _ => Nat.zero_le _
  | c :: r, a, b, h => by
    obtain ⟨h1, h2, h3, h4, h5, h6, h7⟩ := h
    have := chain_len r _ _ h7
    simp only [List.length_cons, sumn, summ]
    omega
theorem hunksN_len (A B : List (List UInt8)) (ctx : Nat) : ∀ (rest cur : List NC), (hunksN A B ctx cur rest).length ≤ rest.length + 1
  | [], cur => by simp [hunksN]
  | c :: r, cur => by
    unfold hunksN
    split
    · have := hunksN_len A B ctx r [c]
      simp only [List.length_cons]; omega
    · have := hunksN_len A B ctx r (cur ++ [c])
      simp only [List.length_cons]; omega
theorem totF_sum (f : Int → Bool) : ∀ (l : List Hnk) (a : Int), totF f l a = sumF f l a
  | [], a => rfl
  | h :: l, a => totF_sum f l _
theorem hunkN_ok {A B : List (List UInt8)} (hAB : A.length + B.length ≤ 1048576) (tA : ∀ t ∈ A, t.length ≤ 1048576) (tB : ∀ t ∈ B, t.length ≤ 1048576) {g : List NC} {x y z : Nat} (hk : hkc A B g x y z) : HnkOK (hunkN A B g x y z) := by
  obtain ⟨l1, l2⟩ := rows_len g x y z hk
  have st : ∀ (p : Nat) (n : Int), p ≤ 1048576 → -9223372036854775808 ≤ stated p n ∧ stated p n ≤ 9223372036854775807 := by
    intro p n hp
    unfold stated
    split <;> omega
  refine ⟨by show (rowsN A B g x z).length ≤ _; omega, fun r hr => ?_, Nat.zero_le _, st _ _ (by omega), st _ _ (by omega)⟩
  rcases rows_mem g x z r hr with h | h
  · exact tA _ h
  · exact tB _ h
/-- What is known of hunks that are built of a script. -/
structure Good (s : List Chg) (A B : List (List UInt8)) (ns : List NC) (hs : List Hnk) : Prop where
  same : s.map chgP = ns.map ncP
  len : hs.length ≤ 1048576
  ok : ∀ h ∈ hs, validF h = true ∧ HnkOK h
  del : sumF isDel hs 0 = (sumn ns : Nat)
  add : sumF isAdd hs 0 = (summ ns : Nat)
  sumN : sumn ns ≤ 1048576
  sumM : summ ns ≤ 1048576
theorem Build_out {s : List Chg} {A B : List (List UInt8)} (hs : s.length ≤ 1048576) (hAB : A.length + B.length ≤ 1048576) (tA : ∀ t ∈ A, t.length ≤ 1048576) (tB : ∀ t ∈ B, t.length ≤ 1048576) (ctx : Int) :
    ∃ v : AV, AV.under 0 v = true ∧ ((∃ e : Int, e ≠ 0 ∧ v = bErr e) ∨ ∃ ns hk, Good s A B ns hk ∧ v = .tup [.pv (.sl (hk.map hnkP)), .pv (.int .i64 0)]) ∧ ∀ w1 : Base, Laid w1.w → SCalls (cx w1) selvageref10_Build.id (bldArgs s A B ctx) [] fun r' _ => r' = v := by
  by_cases h1 : ctx < 0 ∨ ctx > 2147483647
  · exact ⟨bErr 1, rfl, .inl ⟨1, by decide, rfl⟩, fun w1 L => bld_in L (by omega) (by omega) tA tB _ (fun _ => rfl) (fun h => absurd h1 h)⟩
  by_cases h2 : (vT A && vT B) = true
  rotate_left
  · refine ⟨bErr 3, rfl, .inl ⟨3, by decide, rfl⟩, fun w1 L => bld_in L (by omega) (by omega) tA tB _ (fun h => absurd h h1) (fun _ t ht => ?_)⟩
    refine selvageref10_Build.n13_in ?_
    rw [selvageref10_Build.b13_eq]
    refine condB_split ?_ ?_
    · intro _
      exact fin_seal (σ := []) (L := []) glob0 rfl (r' := bErr 3) rfl rfl
    · intro g
      rw [ht, Bool.not_eq_false'] at g
      exact absurd g h2
  have hv := h2
  rw [Bool.and_eq_true] at hv
  have oA := vT_ok hv.1
  have oB := vT_ok hv.2
  have in13 : ∀ (w1 : Base) (v : AV), (SCalls (cx w1) selvageref06_Normal.id [.pv (.sl (s.map chgP)), .pv (.int .i64 (A.length : Nat)), .pv (.int .i64 (B.length : Nat))] [] fun r σ' => isTup r fun vs => opt ((vs)[0]?) fun t39 => isTup r fun vs_1 => opt ((vs_1)[1]?) fun t40 => isI .i64 t40 fun t40_1 => condB ((t40_1 : Int) != 0) (FinK (cx w1) 0 (.tup [.nilsl, (.pv (.int .i64 t40_1))]) σ' fun r' _ => r' = v) (opt (aLen ti23.td (.pv (strsP A))) fun t47 => isI .i64 t47 fun t47_1 => opt (aLen ti23.td (.pv (strsP B))) fun t49 => isI .i64 t49 fun t49_1 => SCalls (cx w1) selvageref06_Pairs.id [t39, (.pv (.int .i64 t47_1)), (.pv (.int .i64 t49_1))] σ' fun r_1 σ'_1 => isTup r_1 fun vs_2 => opt ((vs_2)[0]?) fun t51 => isTup r_1 fun vs_3 => opt ((vs_3)[1]?) fun t52 => isI .i64 t52 fun t52_1 => selvageref10_Build.n34 (selvageref10_Build.X w1 0) w1 0 (fun r' _ => r' = v) σ'_1 (.pv (strsP A)) (.pv (strsP B)) ctx t39 t51 0)) →
      ∀ t, t = !(vT A && vT B) → selvageref10_Build.n13 (selvageref10_Build.X w1 0) w1 0 (fun r' _ => r' = v) [] (.pv (.sl (s.map chgP))) (.pv (strsP A)) (.pv (strsP B)) ctx t := by
    intro w1 v h t ht
    refine selvageref10_Build.n13_in ?_
    rw [selvageref10_Build.b13_eq]
    refine condB_split ?_ ?_
    · intro g
      rw [ht, h2] at g
      cases g
    · intro g
      refine opt_in (v := .pv (.int .i64 ((A.map PV.str).length : Nat))) rfl (isI_in ?_)
      refine opt_in (v := .pv (.int .i64 ((B.map PV.str).length : Nat))) rfl (isI_in ?_)
      rw [List.length_map, List.length_map]
      exact h
  by_cases h3 : vF (A.length : Nat) (B.length : Nat) s = 0
  rotate_left
  · refine ⟨bErr (vF (A.length : Nat) (B.length : Nat) s), rfl, .inl ⟨_, h3, rfl⟩, fun w1 L => bld_in L (by omega) (by omega) tA tB _ (fun h => absurd h h1) (fun _ => in13 w1 _ ?_)⟩
    refine Normal_bad L (by omega) h3 ?_
    repeat (first | ((with_reducible show opt _ _); refine opt_in rfl ?_) | ((with_reducible show isI _ _ _); refine isI_in ?_) | ((with_reducible show isTup _ _); refine isTup_in ?_) | ((with_reducible show isS _ _); refine isS_in ?_) | ((with_reducible show isB _ _); refine isB_in ?_))
    rw [condB_ibne, if_neg h3]
    exact fin_seal (σ := []) (L := []) glob0 rfl (r' := bErr _) rfl rfl
  obtain ⟨ns, e1, e2⟩ := vF_good (by omega) (by omega) h3
  obtain ⟨n1, n2, n3⟩ := norm_facts e2
  obtain ⟨p1, p2, p3⟩ := prs_facts ns 0 0 e2
  obtain ⟨q1, q2, q3⟩ := prs_facts (normN A.length B.length ns) 0 0 n1
  have nlen : ns.length ≤ 1048576 := by
    have := congrArg List.length e1
    rw [List.length_map, List.length_map] at this
    omega
  have tlen := chain_len _ _ _ n1
  have pre : ∀ (w1 : Base), Laid w1.w → ∀ v, (selvageref10_Build.n34 (selvageref10_Build.X w1 0) w1 0 (fun r' _ => r' = v) [] (.pv (strsP A)) (.pv (strsP B)) ctx (.pv (.sl ((normN A.length B.length ns).map ncP))) (.pv (.sl ((prs A.length (normN A.length B.length ns) 0 0).map pairP))) 0) →
      SCalls (cx w1) selvageref10_Build.id (bldArgs s A B ctx) [] fun r' _ => r' = v := by
    intro w1 L v h
    refine bld_in L (by omega) (by omega) tA tB _ (fun h => absurd h h1) (fun _ => in13 w1 _ ?_)
    rw [e1]
    refine Normal_good L (by omega) (by omega) (by omega) e2 ?_
    repeat (first | ((with_reducible show opt _ _); refine opt_in rfl ?_) | ((with_reducible show isI _ _ _); refine isI_in ?_) | ((with_reducible show isTup _ _); refine isTup_in ?_) | ((with_reducible show isS _ _); refine isS_in ?_) | ((with_reducible show isB _ _); refine isB_in ?_))
    rw [condB_ibne, if_pos rfl]
    refine opt_in (v := .pv (.int .i64 ((A.map PV.str).length : Nat))) rfl (isI_in ?_)
    refine opt_in (v := .pv (.int .i64 ((B.map PV.str).length : Nat))) rfl (isI_in ?_)
    rw [List.length_map, List.length_map]
    refine Pairs_good L (by omega) (by omega) (by omega) n1 ?_
    repeat (first | ((with_reducible show opt _ _); refine opt_in rfl ?_) | ((with_reducible show isI _ _ _); refine isI_in ?_) | ((with_reducible show isTup _ _); refine isTup_in ?_) | ((with_reducible show isS _ _); refine isS_in ?_) | ((with_reducible show isB _ _); refine isB_in ?_))
    exact h
  by_cases h4 : (prs A.length (normN A.length B.length ns) 0 0).all (wEq A B) = true
  rotate_left
  · refine ⟨bErr 61, rfl, .inl ⟨61, by decide, rfl⟩, fun w1 L => pre w1 L _ ?_⟩
    exact chk_loop L A B tA tB ctx _ (bErr 61) _ (by rw [List.length_map]; omega) _ 0 rfl (incr_mem q1) (fun _ => rfl) (fun h => absurd h h4)
  have hW : chW A B (normN A.length B.length ns) 0 0 := chW_of _ 0 0 n1 fun p hp => wEq_W (List.all_eq_true.1 h4 p hp)
  have into : ∀ (w1 : Base), Laid w1.w → ∀ v, (selvageref10_Build.n59 (selvageref10_Build.X w1 0) w1 0 (fun r' _ => r' = v) (bldS []) (.pv (strsP A)) (.pv (strsP B)) ctx (.pv (.sl ((normN A.length B.length ns).map ncP))) (bldA []) 0 1) → SCalls (cx w1) selvageref10_Build.id (bldArgs s A B ctx) [] fun r' _ => r' = v := by
    intro w1 L v h
    refine pre w1 L v ?_
    refine chk_loop L A B tA tB ctx _ v _ (by rw [List.length_map]; omega) _ 0 rfl (incr_mem q1) (fun e => absurd h4 (by rw [e]; decide)) (fun _ => ?_)
    refine selvageref10_Build.n51_in ?_
    rw [selvageref10_Build.b51_eq]
    exact selvageref10_Build.n59_weak (a' := .pv (strsP A)) (b' := .pv (strsP B)) (context' := ctx) (t' := .pv (.sl ((normN A.length B.length ns).map ncP))) (out' := bldA []) (from_' := 0) (i' := 1) (τ := bldS []) (EWeak.nil (t := 15) (es := 6) rfl rfl) h
  obtain ⟨ctx', hcx⟩ : ∃ x : Nat, ctx = x := ⟨ctx.toNat, by omega⟩
  cases hT : normN A.length B.length ns with
  | nil =>
    rw [hT] at n2 n3
    refine ⟨.tup [.pv (.sl []), .pv (.int .i64 0)], rfl, .inr ⟨ns, [], ⟨e1, Nat.zero_le _, fun h hh => by simp at hh, ?_, ?_, by omega, by omega⟩, rfl⟩, fun w1 L => into w1 L _ ?_⟩
    · show (0 : Int) = _
      rw [← n2]; rfl
    · show (0 : Int) = _
      rw [← n3]; rfl
    · rw [hT]
      refine selvageref10_Build.n59_in ?_
      rw [selvageref10_Build.b60_eq]
      repeat (first | ((with_reducible show opt _ _); refine opt_in rfl ?_) | ((with_reducible show isI _ _ _); refine isI_in ?_) | ((with_reducible show isTup _ _); refine isTup_in ?_) | ((with_reducible show isS _ _); refine isS_in ?_) | ((with_reducible show isB _ _); refine isB_in ?_))
      rw [condB_decide, if_neg (by decide)]
      refine selvageref10_Build.n76_in ?_
      rw [selvageref10_Build.b76_eq]
      exact fin_seal (σ := []) (L := bldS []) glob0 rfl (bld_seal []) rfl
  | cons d rest =>
    rw [hT] at n2 n3 hW tlen
    have lAB : A.length + B.length ≤ 2097152 := by omega
    obtain ⟨g1, g2⟩ := hunks_ok oA oB lAB ctx' rest [d] 0 0 (by simp) hW (fun c _ => Nat.zero_le _)
    have s1 : sumn ([d] ++ rest) = sumn ns := n2
    have s2 : summ ([d] ++ rest) = summ ns := n3
    obtain ⟨g3, g4⟩ := g2 0 0 (Int.le_refl _) (by rw [s1]; omega) (Int.le_refl _) (by rw [s2]; omega)
    rw [s1] at g3
    rw [s2] at g4
    rw [totF_sum, Int.zero_add] at g3 g4
    simp only [List.length_cons] at tlen
    have hl := hunksN_len A B ctx' rest [d]
    refine ⟨.tup [.pv (.sl ((hunksN A B ctx' [d] rest).map hnkP)), .pv (.int .i64 0)], rfl, .inr ⟨ns, hunksN A B ctx' [d] rest, ⟨e1, by omega, fun h hh => ?_, g3, g4, by omega, by omega⟩, rfl⟩, fun w1 L => into w1 L _ ?_⟩
    · obtain ⟨k1, g, x, y, z, k2, k3⟩ := g1 h hh
      exact ⟨k1, by rw [k3]; exact hunkN_ok hAB tA tB k2⟩
    · rw [hT, hcx]
      have := grp_loop L A B lAB ctx' (by omega) (d :: rest) (by rw [List.length_cons]; omega) rest [d] 0 0 0 [] (by simp) rfl hW (fun c _ => Nat.zero_le _) (by rw [List.length_nil]; omega)
      exact this
end
end Go.Sv
