/- Lines as numbers, the document's side. -/
import Derived.Test.YtimmjplgogpglaaDoorFdT
set_option linter.unusedVariables false
set_option linter.unusedSimpArgs false
set_option maxRecDepth 100000
namespace Go.Sv
open Go Go.RowKit Go.Proofs
section
variable {w0 : Base} {σ : Store}
abbrev riS (ks : List Ln) (x y : List Int) : Store := [.cells 64 [.arr 2 x.length 0 x.length, .arr 3 y.length 0 y.length], .arr 1 (ks.map PV.str) false, .arr 1 (iP x) false, .arr 1 (iP y) false]
def riT (c : Bool) (ks : List Ln) (u v : List Int) : Store := match c with
  | false => riS ks u v
  | true => riS ks v u
abbrev sideI (c : Bool) : Int := if c = true then 1 else 0
theorem riT_keys (c : Bool) (ks : List Ln) (u v : List Int) : (riT c ks u v)[1]? = some (.arr 1 (ks.map PV.str) false) := by cases c <;> rfl
theorem ln_idx {σ : Store} {i : Nat} {ks : List Ln} {fz : Bool} (ho : σ[i]? = some (.arr 1 (ks.map PV.str) fz)) {j : Nat} (hj : j < ks.length) : aIndexAddr σ tabS ti46.td (.arr i ks.length 0 ks.length) (j : Int) = some (.eptr i ks.length j 0) := by
  have := idx_arr (σ := σ) (tab := tabS) (e := 9) (ei := ti9) (id := i) (es := 1) (ver := ks.length) (off := 0) (len := ks.length) (k := j) (xs := ks.map PV.str) (fz := fz) tab9 ho hj rfl (List.length_map _)
  rw [Nat.zero_add] at this
  exact this
theorem ln_load {σ : Store} {i : Nat} {ks : List Ln} {fz : Bool} (ho : σ[i]? = some (.arr 1 (ks.map PV.str) fz)) {j : Nat} {s : Ln} (hj : ks[j]? = some s) : aLoad σ ti9 (.eptr i ks.length j 0) = some (.pv (.str s)) := by
  have hg : (ks.map PV.str)[j]? = some (.str s) := by rw [List.getElem?_map, hj]; rfl
  have hv : (ks.map PV.str).length = ks.length := List.length_map _
  simp only [aLoad, ho, if_pos hv, hg]
  rfl
theorem riT_step (c : Bool) (ks : List Ln) (u v : List Int) (x : Int) (hu : u.length ≤ 1099511627776) {K : Store → Prop} (hK : K (riT c ks (u ++ [x]) v)) :
    opt (aIndexAddr (riT c ks u v) tabS ti64.td (.ptr 0 0) (sideI c)) fun t66 => opt (aLoad (riT c ks u v) ti43 t66) fun t67 => opt2 (aBuildSlice (riT c ks u v) ti3 false 1 [(0, (.pv (.int .i64 x)))]) fun t69 σ' => opt2 (aAppend σ' ti3 t67 t69) fun t70 σ'_1 => opt (aIndexAddr σ'_1 tabS ti64.td (.ptr 0 0) (sideI c)) fun t71 => opt (aStore σ'_1 ti43 t71 t70) K := by
  cases c with
  | false =>
    refine opt_in rfl (opt_in (v := .arr 2 u.length 0 u.length) rfl ?_)
    refine opt2_in (v := .pv (.sl [intP x])) rfl ?_
    refine opt2_in (in_append (σ := riS ks u v) (id := 2) rfl hu) ?_
    refine opt_in rfl (opt_in rfl ?_)
    exact hK
  | true =>
    refine opt_in rfl (opt_in (v := .arr 3 u.length 0 u.length) rfl ?_)
    refine opt2_in (v := .pv (.sl [intP x])) rfl ?_
    refine opt2_in (in_append (σ := riS ks v u) (id := 3) rfl hu) ?_
    refine opt_in rfl (opt_in rfl ?_)
    exact hK
abbrev r38 (w0 : Base) (P : AV → Prop) (a b : List Ln) (c : Bool) (ks : List Ln) (u v : List Int) (l : List Ln) (i : Nat) : Prop := selvageref05_Ids.n38 (selvageref05_Ids.X w0 0) w0 0 (fun r _ => P r) (riT c ks u v) (.pv (lnsP a)) (.pv (lnsP b)) 0 (.arr 1 ks.length 0 ks.length) (.ptr 0 0) (sideI c) (.pv (lnsP l)) i
abbrev r18 (w0 : Base) (P : AV → Prop) (a b : List Ln) (ks : List Ln) (x y : List Int) (sd : Int) : Prop := selvageref05_Ids.n18 (selvageref05_Ids.X w0 0) w0 0 (fun r _ => P r) (riS ks x y) (.pv (lnsP a)) (.pv (lnsP b)) 0 (.arr 1 ks.length 0 ks.length) (.ptr 0 0) sd
variable {P : AV → Prop}
theorem rfind {a b : List Ln} {c : Bool} {ks : List Ln} {u v : List Int} {l : List Ln} {i : Nat} {s : Ln} (hks : ks.length ≤ 16777216) (next : selvageref05_Ids.n62 (selvageref05_Ids.X w0 0) w0 0 (fun r _ => P r) (riT c ks u v) (.pv (lnsP a)) (.pv (lnsP b)) 0 (.arr 1 ks.length 0 ks.length) (.ptr 0 0) (sideI c) (.pv (lnsP l)) i s (atF s ks : Nat)) : ∀ (f j : Nat), j + f = atF s ks →
    selvageref05_Ids.n53 (selvageref05_Ids.X w0 0) w0 0 (fun r _ => P r) (riT c ks u v) (.pv (lnsP a)) (.pv (lnsP b)) 0 (.arr 1 ks.length 0 ks.length) (.ptr 0 0) (sideI c) (.pv (lnsP l)) i s (j : Nat)
  | f, j, hj => by
    have hle := atF_le s ks
    have h57 : ∀ q : Bool, (q = true ↔ j < atF s ks) → selvageref05_Ids.n57 (selvageref05_Ids.X w0 0) w0 0 (fun r _ => P r) (riT c ks u v) (.pv (lnsP a)) (.pv (lnsP b)) 0 (.arr 1 ks.length 0 ks.length) (.ptr 0 0) (sideI c) (.pv (lnsP l)) i s (j : Nat) q := by
      intro q hq
      refine selvageref05_Ids.n57_in ?_
      rw [selvageref05_Ids.b57_eq]
      refine condB_split (fun g => ?_) (fun g => ?_)
      · have hlt := hq.1 g
        cases f with
        | zero => omega
        | succ f =>
          rw [wrap_next (n := ks.length) (by omega) (by omega)]
          exact rfind hks next f (j + 1) (by omega)
      · have hn : ¬ j < atF s ks := fun h => by rw [hq.2 h] at g; cases g
        rw [show j = atF s ks by omega]
        exact next
    refine selvageref05_Ids.n53_in ?_
    rw [selvageref05_Ids.b54_eq]
    refine opt_in (v := .pv (.int .i64 (ks.length : Nat))) rfl (isI_in ?_)
    rw [condB_decide]
    refine ite_split (fun g => ?_) (fun g => ?_)
    · have hlt : j < ks.length := by omega
      have hg : ks[j]? = some ks[j] := List.getElem?_eq_getElem hlt
      refine opt_in (ln_idx (riT_keys c ks u v) hlt) ?_
      refine opt_in (ln_load (riT_keys c ks u v) hg) (isS_in ?_)
      refine h57 _ ?_
      constructor
      · intro e
        by_cases h : j < atF s ks
        · exact h
        · exfalso
          have hj2 : j = atF s ks := by omega
          have h3 := atF_get s ks (by omega)
          rw [← hj2, hg] at h3
          have h4 : ks[j] = s := by simpa using h3
          rw [h4] at e
          simp at e
      · intro h
        have h3 := atF_not s ks j h
        rw [hg] at h3
        simpa using h3
    · exact h57 false ⟨fun e => Bool.noConfusion e, fun h => absurd h (by omega)⟩
theorem ri_loop {a b l : List Ln} (c : Bool) (hb : ∀ s ∈ l, s.length ≤ 4194304) (hl : l.length ≤ 4194304) {ks0 : List Ln} {v : List Int} (next : selvageref05_Ids.n70 (selvageref05_Ids.X w0 0) w0 0 (fun r _ => P r) (riT c (knF ks0 l) (xsF ks0 l) v) (.pv (lnsP a)) (.pv (lnsP b)) 0 (.arr 1 (knF ks0 l).length 0 (knF ks0 l).length) (.ptr 0 0) (sideI c)) :
    ∀ (r : List Ln) (k : Nat) (xs : List Int) (ks : List Ln), k + r.length = l.length → l.drop k = r → xs.length = k → ks.length ≤ 4194304 + k → xs ++ xsF ks r = xsF ks0 l → knF ks r = knF ks0 l → r38 w0 P a b c ks xs v l k
  | [], k, xs, ks, hk, hd, hx, hkl, h1, h2 => by
    rw [List.length_nil] at hk
    refine selvageref05_Ids.n38_in ?_
    rw [selvageref05_Ids.b39_eq]
    repeat ((with_reducible first | apply opt_in | apply wI | apply wT | apply wP | apply wS | apply wB); exact rfl)
    rw [List.length_map, condB_decide, if_neg (by omega)]
    simp only [xsF, List.append_nil] at h1
    subst h1
    have h3 : ks = knF ks0 l := h2
    subst h3
    exact next
  | s :: r, k, xs, ks, hk, hd, hx, hkl, h1, h2 => by
    obtain ⟨g1, g2, g3⟩ := drop_facts hd
    have hin : s ∈ l := List.mem_of_getElem? g1
    rw [List.length_cons] at hk
    have hle := atF_le s ks
    have ih := ri_loop c hb hl next r (k + 1) (xs ++ [(atF s ks : Int)]) (addK ks s) (by omega) g2 (by rw [List.length_append, List.length_singleton, hx]) (by have := addK_len ks s; omega) (by rw [List.append_assoc]; exact h1) h2
    have h68 : ∀ ks', ks' = addK ks s → selvageref05_Ids.n68 (selvageref05_Ids.X w0 0) w0 0 (fun r _ => P r) (riT c ks' xs v) (.pv (lnsP a)) (.pv (lnsP b)) 0 (.arr 1 ks'.length 0 ks'.length) (.ptr 0 0) (sideI c) (.pv (lnsP l)) k (atF s ks : Nat) := by
      rintro ks' rfl
      refine selvageref05_Ids.n68_in ?_
      rw [selvageref05_Ids.b68_eq]
      refine riT_step c (addK ks s) xs v _ (by omega) ?_
      refine selvageref05_Ids.n69_in ?_
      rw [selvageref05_Ids.b69_eq, wrap_next (n := l.length) (by omega) (by omega)]
      exact ih
    refine selvageref05_Ids.n38_in ?_
    rw [selvageref05_Ids.b39_eq]
    repeat ((with_reducible first | apply opt_in | apply wI | apply wT | apply wP | apply wS | apply wB); exact rfl)
    rw [List.length_map, condB_decide, if_pos (by omega)]
    refine opt_in (idx_ro tab9 (show (l.map PV.str)[k]? = some (PV.str s) by rw [List.getElem?_map, g1]; rfl) rfl) ?_
    repeat ((with_reducible first | apply opt_in | apply wI | apply wT | apply wP | apply wS | apply wB); exact rfl)
    refine rKey_spec (by have := hb s hin; omega) (isS_in ?_)
    refine rfind (by omega) ?_ (atF s ks) 0 (Nat.zero_add _)
    refine selvageref05_Ids.n62_in ?_
    rw [selvageref05_Ids.b62_eq]
    refine opt_in (v := .pv (.int .i64 (ks.length : Nat))) rfl (isI_in ?_)
    rw [condB_ibeq]
    refine ite_split (fun g => ?_) (fun g => ?_)
    · have hn : atF s ks = ks.length := by omega
      refine opt2_in one_str ?_
      refine opt2_in (ln_append (riT_keys c ks xs v) (by omega)) ?_
      have := h68 (ks ++ [s]) (by unfold addK; rw [if_pos hn])
      cases c <;> exact this
    · exact h68 ks (by unfold addK; rw [if_neg (by omega)])
theorem rIds_spec {R : AV → Store → Prop} (L : Laid w0.w) {a b : List Ln} (ha : a.length ≤ 4194304) (hb : b.length ≤ 4194304) (ca : ∀ s ∈ a, s.length ≤ 4194304) (cb : ∀ s ∈ b, s.length ≤ 4194304) (hR : R (.tup [intsA (xsF [] a), intsA (xsF (knF [] a) b), .pv (.int .i64 0)]) σ) : SCalls (cx w0) selvageref05_Ids.id [.pv (lnsP a), .pv (lnsP b), .pv (.int .i64 0)] σ R := by
  refine SCalls.alone L rfl (fun w1 L1 => ?_) rfl hR
  refine selvageref05_Ids.calls ?_
  rw [selvageref05_Ids.b0_eq, condB_decide, if_neg (by decide)]
  refine selvageref05_Ids.n5_in ?_
  rw [selvageref05_Ids.b5_eq, condB_decide, if_neg (by decide)]
  have kl := knF_len a []
  simp only [List.length_nil, Nat.zero_add] at kl
  refine selvageref05_Ids.n18_weak (a' := .pv (lnsP a)) (b' := .pv (lnsP b)) (equal' := 0) (keys' := .arr 1 0 0 0) (out' := .ptr 0 0) (side' := 0) (τ := [.cells 64 [.nilsl, .nilsl], .arr 1 [] false]) (EWeak.nil (t := 9) (es := 1) rfl rfl) ?_
  refine selvageref05_Ids.n18_weak (a' := .pv (lnsP a)) (b' := .pv (lnsP b)) (equal' := 0) (keys' := .arr 1 0 0 0) (out' := .ptr 0 0) (side' := 0) (EWeak.cellNil (id := 0) (es := 1) (ty := 64) (pre := []) (post := [.nilsl]) rfl) ?_
  refine selvageref05_Ids.n18_weak (a' := .pv (lnsP a)) (b' := .pv (lnsP b)) (equal' := 0) (keys' := .arr 1 0 0 0) (out' := .ptr 0 0) (side' := 0) (EWeak.cellNil (id := 0) (es := 1) (ty := 64) (pre := [.arr 2 0 0 0]) (post := []) rfl) ?_
  show r18 w1 (fun r' => r' = .tup [intsA (xsF [] a), intsA (xsF (knF [] a) b), .pv (.int .i64 0)]) a b [] [] [] 0
  refine selvageref05_Ids.n18_in ?_
  rw [selvageref05_Ids.b19_eq, condB_decide, if_pos (by decide), show ((0 : Int) == 1) = false from rfl, condB_false']
  refine selvageref05_Ids.n35_in ?_
  rw [selvageref05_Ids.b35_eq]
  refine ri_loop (a := a) (b := b) (l := a) (v := []) (ks0 := []) false ca ha ?_ a 0 [] [] (Nat.zero_add _) rfl rfl (Nat.zero_le _) rfl rfl
  refine selvageref05_Ids.n70_in ?_
  rw [selvageref05_Ids.b70_eq]
  show r18 w1 (fun r' => r' = .tup [intsA (xsF [] a), intsA (xsF (knF [] a) b), .pv (.int .i64 0)]) a b (knF [] a) (xsF [] a) [] 1
  refine selvageref05_Ids.n18_in ?_
  rw [selvageref05_Ids.b19_eq, condB_decide, if_pos (by decide), show ((1 : Int) == 1) = true from rfl, condB_true']
  refine selvageref05_Ids.n35_in ?_
  rw [selvageref05_Ids.b35_eq]
  refine ri_loop (a := a) (b := b) (l := b) (v := xsF [] a) (ks0 := knF [] a) true cb hb ?_ b 0 [] (knF [] a) (Nat.zero_add _) rfl rfl (by omega) rfl rfl
  refine selvageref05_Ids.n70_in ?_
  rw [selvageref05_Ids.b70_eq]
  show r18 w1 (fun r' => r' = .tup [intsA (xsF [] a), intsA (xsF (knF [] a) b), .pv (.int .i64 0)]) a b (knF (knF [] a) b) (xsF [] a) (xsF (knF [] a) b) 2
  refine selvageref05_Ids.n18_in ?_
  rw [selvageref05_Ids.b19_eq, condB_decide, if_neg (by decide)]
  refine selvageref05_Ids.n71_in ?_
  rw [selvageref05_Ids.b71_eq]
  refine opt_in rfl (opt_in rfl (opt_in rfl (opt_in rfl ⟨opt_in rfl rfl, opt_in rfl rfl, ?_⟩)))
  refine fin_seal (σ := []) (L := riS (knF (knF [] a) b) (xsF [] a) (xsF (knF [] a) b)) glob0 rfl (r' := .tup [intsA (xsF [] a), intsA (xsF (knF [] a) b), .pv (.int .i64 0)]) ?_ rfl
  have e1 := in_seal (k := 0) (S := riS (knF (knF [] a) b) (xsF [] a) (xsF (knF [] a) b)) (id := 2) (xs := xsF [] a) (fz := false) (Nat.zero_le _) rfl
  have e2 := in_seal (k := 0) (S := riS (knF (knF [] a) b) (xsF [] a) (xsF (knF [] a) b)) (id := 3) (xs := xsF (knF [] a) b) (fz := false) (Nat.zero_le _) rfl
  have e3 : ∀ S : Store, sealV 0 S (.arr 2 (xsF [] a).length 0 (xsF [] a).length) = some (intsA (xsF [] a)) → sealV 0 S (.arr 3 (xsF (knF [] a) b).length 0 (xsF (knF [] a) b).length) = some (intsA (xsF (knF [] a) b)) → sealR 0 S (.tup [.arr 2 (xsF [] a).length 0 (xsF [] a).length, .arr 3 (xsF (knF [] a) b).length 0 (xsF (knF [] a) b).length, .pv (.int .i64 0)]) = some (.tup [intsA (xsF [] a), intsA (xsF (knF [] a) b), .pv (.int .i64 0)]) := by
    intro S e1 e2
    show (match sealV 0 S (.arr 2 (xsF [] a).length 0 (xsF [] a).length), sealEs 0 S [.arr 3 (xsF (knF [] a) b).length 0 (xsF (knF [] a) b).length, .pv (.int .i64 0)] with
      | some b, some s => some (b :: s)
      | _, _ => none).map AV.tup = _
    have e4 : sealEs 0 S [.arr 3 (xsF (knF [] a) b).length 0 (xsF (knF [] a) b).length, .pv (.int .i64 0)] = some [intsA (xsF (knF [] a) b), .pv (.int .i64 0)] := by
      show (match sealV 0 S (.arr 3 (xsF (knF [] a) b).length 0 (xsF (knF [] a) b).length), sealEs 0 S [.pv (.int .i64 0)] with
        | some b, some s => some (b :: s)
        | _, _ => none) = _
      rw [e2]
      rfl
    rw [e1, e4]
    rfl
  exact e3 _ e1 e2
end
end Go.Sv
