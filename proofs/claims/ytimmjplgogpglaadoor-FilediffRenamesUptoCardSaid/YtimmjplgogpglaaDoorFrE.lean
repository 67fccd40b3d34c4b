/- Files that went and came elsewhere: what the document's side answers, to its end. Files that went and came elsewhere: what the document's side answers, from its head on. Files that went and came elsewhere: how much of each two is the same, as the program lays it. Files that went and came elsewhere: the table of the program, all of it. -/
import Derived.Test.YtimmjplgogpglaaDoorFrB
import Derived.Test.YtimmjplgogpglaaDoorFrA
set_option linter.unusedVariables false
set_option linter.unusedSimpArgs false
set_option maxRecDepth 100000
section
namespace Go.Sv
open Go Go.RowKit Go.Proofs
structure EntOK (gone come : List Ent) : Prop where
  hg : ∀ e ∈ gone, e.t.length ≤ 4194304
  hc : ∀ e ∈ come, e.t.length ≤ 4194304
  gl : gone.length ≤ 4194304
  cl : come.length ≤ 4194304
section
variable {w0 : Base} {P : AV → Prop} {gone come : List Ent} {least : Int} {to : List Int} {tk : List Bool}
theorem movF_drop {i : Nat} {x : Ent} {t : Int} (h1 : gone[i]? = some x) (h2 : to[i]? = some t) : movF come (gone.drop i) (to.drop i) = mvF come x t ++ movF come (gone.drop (i + 1)) (to.drop (i + 1)) := by
  obtain ⟨g1, e1⟩ := List.getElem?_eq_some_iff.1 h1
  obtain ⟨g2, e2⟩ := List.getElem?_eq_some_iff.1 h2
  rw [List.drop_eq_getElem_cons g1, List.drop_eq_getElem_cons g2, e1, e2]
  rfl
abbrev outS (gone come : List Ent) (to : List Int) (tk : List Bool) (l : List Mv) : Store := rnS gone come to tk ++ [.arr 3 (l.map mvP) false]
theorem mv_append {σ : Store} {id : Nat} {l : List Mv} {v : Mv} (ho : σ[id]? = some (.arr 3 (l.map mvP) false)) (h : l.length ≤ 1099511627776) {ei : TI} (h1 : ei.size = 3) (h2 : ei.bytes = 40) : aAppend σ ei (.arr id l.length 0 l.length) (.pv (.sl [mvP v])) = some (.arr id (l ++ [v]).length 0 (l ++ [v]).length, σ.set id (.arr 3 ((l ++ [v]).map mvP) false)) := by
  rw [append_pv (id := id) (es := 3) (ver := l.length) (xs := l.map mvP) (ys := [mvP v]) rfl ho (List.length_map _).symm h1.symm (by rw [h1]; rfl) ⟨by rw [List.length_map]; show l.length + 1 ≤ _; omega, by rw [List.length_map, h2]; show (l.length + 1) * 40 ≤ _; omega⟩]
  simp
def rnA (l : List Mv) : AV := .tup [.pv (.sl (l.map mvP)), .pv (.int .i64 0)]
theorem rn_list (ok : EntOK gone come) (ht : to.length = gone.length) (hin : InTo come.length to) (hP : P (rnA (movF come gone to))) : ∀ (f i : Nat) (l : List Mv), i + f = gone.length → l.length ≤ i → l ++ movF come (gone.drop i) (to.drop i) = movF come gone to →
    selvageref25_Renames.n106 (selvageref25_Renames.X w0 0) w0 0 (fun r _ => P r) (outS gone come to tk l) (entsA gone) (entsA come) (iArr 1 gone.length) (iArr 2 gone.length) (.arr 4 l.length 0 l.length) i
  | 0, i, l, hf, hl, he => by
    have hgl := ok.gl
    refine selvageref25_Renames.n106_in ?_
    rw [selvageref25_Renames.b107_eq]
    repeat ((with_reducible first | apply opt_in | apply wI | apply wT | apply wP | apply wS | apply wB); exact rfl)
    rw [List.length_map, condB_decide, if_neg (by omega)]
    refine selvageref25_Renames.n121_in ?_
    rw [selvageref25_Renames.b121_eq]
    rw [List.drop_eq_nil_of_le (by omega)] at he
    simp only [movF, List.append_nil] at he
    subst he
    refine fin_seal (σ := []) (L := outS gone come to tk _) (r' := rnA (movF come gone to)) glob0 rfl ?_ hP
    have e : ∀ S : Store, S[4]? = some (.arr 3 ((movF come gone to).map mvP) false) → sealR 0 S (.tup [.arr 4 (movF come gone to).length 0 (movF come gone to).length, .pv (.int .i64 0)]) = some (rnA (movF come gone to)) := by
      intro S ho
      have e1 : sealV 0 S (.arr 4 (movF come gone to).length 0 (movF come gone to).length) = some (.pv (.sl ((movF come gone to).map mvP))) := by
        simp only [sealV, show Nat.ble 0 4 = true from rfl, ho]
        rw [if_pos ⟨List.length_map _, by omega⟩]
        simp [List.take_of_length_le]
      show (match sealV 0 S (.arr 4 (movF come gone to).length 0 (movF come gone to).length), sealEs 0 S [.pv (.int .i64 0)] with
        | some b, some s => some (b :: s)
        | _, _ => none).map AV.tup = _
      rw [e1]; rfl
    exact e _ rfl
  | f + 1, i, l, hf, hl, he => by
    have hgl := ok.gl
    have hcl := ok.cl
    have hlt : i < gone.length := by omega
    have gx : gone[i]? = some gone[i] := List.getElem?_eq_getElem hlt
    have gt : to[i]? = some (to[i]'(by omega)) := List.getElem?_eq_getElem _
    generalize gone[i] = x at gx
    generalize to[i]'(by omega) = t at gt
    rw [movF_drop gx gt] at he
    have step : ∀ l', l'.length ≤ i + 1 → l' ++ movF come (gone.drop (i + 1)) (to.drop (i + 1)) = movF come gone to → selvageref25_Renames.n120 (selvageref25_Renames.X w0 0) w0 0 (fun r _ => P r) (outS gone come to tk l') (entsA gone) (entsA come) (iArr 1 gone.length) (iArr 2 gone.length) (.arr 4 l'.length 0 l'.length) i := by
      intro l' h1 h2
      refine selvageref25_Renames.n120_in ?_
      rw [selvageref25_Renames.b120_eq, wrap_next hlt (by omega)]
      exact rn_list ok ht hin hP f (i + 1) l' (by omega) h1 h2
    refine selvageref25_Renames.n106_in ?_
    rw [selvageref25_Renames.b107_eq]
    repeat ((with_reducible first | apply opt_in | apply wI | apply wT | apply wP | apply wS | apply wB); exact rfl)
    rw [List.length_map, condB_decide, if_pos (by omega)]
    refine opt_in (arr_idx (i := 1) (c := to) (fz := false) rfl ht hlt) ?_
    refine opt_in (arr_load (i := 1) (c := to) (fz := false) rfl ht gt) (isI_in ?_)
    rw [condB_ibne]
    refine ite_split (fun g => ?_) (fun g => ?_)
    · refine step l (by omega) ?_
      unfold mvF at he
      rw [if_pos g, List.nil_append] at he
      exact he
    · rcases hin t (List.mem_of_getElem? gt) with h0 | ⟨t1, t2⟩
      · exact absurd h0 g
      obtain ⟨k, rfl⟩ : ∃ k : Nat, t = (k : Int) + 1 := ⟨(t - 1).toNat, by omega⟩
      have hk : k < come.length := by omega
      have gy : come[k]? = some come[k] := List.getElem?_eq_getElem hk
      generalize come[k] = y at gy
      have wk : IntKind.wrap .i64 ((k : Int) + 1 - 1) = (k : Int) := by rw [wrap_i64 (by omega) (by omega)]; omega
      refine opt_in (idx_ro tab54 (ent_get gx) rfl) ?_
      repeat ((with_reducible first | apply opt_in | apply wI | apply wT | apply wP | apply wS | apply wB); exact rfl)
      refine opt_in (arr_idx (i := 1) (c := to) (fz := false) rfl ht hlt) ?_
      refine opt_in (arr_load (i := 1) (c := to) (fz := false) rfl ht gt) (isI_in ?_)
      rw [wk]
      refine opt_in (idx_ro tab54 (ent_get gy) rfl) ?_
      repeat ((with_reducible first | apply opt_in | apply wI | apply wT | apply wP | apply wS | apply wB); exact rfl)
      refine opt_in (arr_idx (i := 2) (c := pcF come gone to) (fz := false) rfl (pcF_len ht) hlt) ?_
      refine opt_in (arr_load (i := 2) (c := pcF come gone to) (fz := false) rfl (pcF_len ht) (pcF_get gx gt)) (isI_in ?_)
      have e1 : pcA come x ((k : Int) + 1) = likeM x y := by
        unfold pcA
        rw [if_neg g, show ((k : Int) + 1 - 1).toNat = k by omega, gy]
      have e2 : mvF come x ((k : Int) + 1) = [⟨x.p, y.p, likeM x y⟩] := by
        unfold mvF
        rw [if_neg g, show ((k : Int) + 1 - 1).toNat = k by omega, gy]
      rw [e2] at he
      rw [e1]
      refine opt_in (v := .pv (mvP ⟨x.p, y.p, likeM x y⟩)) rfl ?_
      refine opt2_in (v := .pv (.sl [mvP ⟨x.p, y.p, likeM x y⟩])) rfl ?_
      refine opt2_in (mv_append (σ := outS gone come to tk l) (id := 4) rfl (by omega) rfl rfl) ?_
      exact step _ (by rw [List.length_append, List.length_singleton]; omega) (by rw [List.append_assoc]; exact he)
theorem rn_match (L : Laid w0.w) (ok : EntOK gone come) (hle : 1 ≤ least) (hle2 : least ≤ 100) : ∀ (f : Nat) (to : List Int) (tk : List Bool), zerosF to < f → to.length = gone.length → tk.length = come.length → InTo come.length to → P (rnA (movF come gone (matchF gone come least f to tk))) → n45' w0 P gone come least to tk
  | 0, to, tk, hz, _, _, _, _ => absurd hz (Nat.not_lt_zero _)
  | f + 1, to, tk, hz, ht, hk, hin, hP => by
    have hgl := ok.gl
    have hcl := ok.cl
    refine selvageref25_Renames.n45_in ?_
    rw [selvageref25_Renames.b46_eq]
    refine rn_out L ok.hg ok.hc ok.gl ok.cl ht hk gone.length 0 ⟨0, 0, 0⟩ (Nat.zero_add _) (.inl rfl) ?_
    intro s' hs
    have hs' : s' = pickF gone come to tk := hs
    subst hs'
    unfold matchF at hP
    refine selvageref25_Renames.n89_in ?_
    rw [selvageref25_Renames.b89_eq, condB_decide]
    refine ite_split (fun g => ?_) (fun g => ?_)
    · rw [if_pos g] at hP
      refine selvageref25_Renames.n100_in ?_
      rw [selvageref25_Renames.b100_eq]
      refine selvageref25_Renames.n106_weak (gone' := entsA gone) (come' := entsA come) (to' := iArr 1 gone.length) (percent' := iArr 2 gone.length) (out' := .arr 4 0 0 0) (i' := (0 : Nat)) (τ := outS gone come to tk []) (EWeak.nil (t := 20) (es := 3) rfl rfl) ?_
      exact rn_list ok ht hin hP gone.length 0 [] (Nat.zero_add _) (Nat.zero_le _) rfl
    · rw [if_neg g] at hP
      obtain ⟨i, k, x, y, pk⟩ := pick_is (gone := gone) (come := come) (to := to) (tk := tk) (by omega)
      rw [pk.is] at hP ⊢
      have li := (List.getElem?_eq_some_iff.1 pk.hi).1
      have lk := (List.getElem?_eq_some_iff.1 pk.hk).1
      simp only [Int.toNat_natCast] at hP
      dsimp only
      rw [wrap_i64 (by omega) (by omega)]
      refine opt_in (arr_idx (i := 1) (c := to) (fz := false) rfl ht li) ?_
      refine opt_in (arr_store (i := 1) (c := to) rfl ht pk.free) ?_
      refine opt_in (arr_idx (i := 2) (c := pcF come gone to) (fz := false) rfl (pcF_len ht) li) ?_
      refine opt_in (arr_store (i := 2) (c := pcF come gone to) rfl (pcF_len ht) (pcF_get pk.hi pk.free)) ?_
      refine opt_in (bo_idx (i := 3) (c := tk) (fz := false) rfl hk lk) ?_
      refine opt_in (bo_store (i := 3) (c := tk) rfl hk pk.tk) ?_
      have hz' := zeros_set (t := (k : Int) + 1) pk.free (by omega)
      have key := rn_match L ok hle hle2 f (to.set i ((k : Int) + 1)) (tk.set k true) (by omega) (by rw [List.length_set]; exact ht) (by rw [List.length_set]; exact hk) (hin.set lk) hP
      unfold n45' rnS at key
      rw [← pcF_set ht pk.hi pk.hk] at key
      exact key
end
end Go.Sv
end
section
namespace Go.Sv
open Go Go.RowKit Go.Proofs
section
variable {w0 : Base} {P : AV → Prop} {gone come : List Ent} {least : Int}
def pairsF (gone come : List Ent) (least : Int) : List Mv := movF come gone (matchF gone come least (gone.length + 1) (List.replicate gone.length 0) (List.replicate come.length false))
theorem mk_brow {σ : Store} {n : Nat} (h : n ≤ 1099511627776) : aMakeSlice σ ti4 (n : Int) (n : Int) = some (.arr σ.length n 0 n, σ ++ [.arr 1 (boP (List.replicate n false)) false]) := by
  show (if 0 ≤ (n : Int) ∧ (n : Int) ≤ (n : Int) ∧ roomy (n : Int).toNat 1 ∧ (PV.bool false).cells.length = 1 then some (AV.arr σ.length (n : Int).toNat 0 (n : Int).toNat, σ ++ [SObj.arr 1 (List.replicate (n : Int).toNat (PV.bool false)) false]) else none) = _
  have e : (n : Int).toNat = n := Int.toNat_natCast n
  rw [if_pos ⟨Int.natCast_nonneg n, Int.le_refl _, by rw [e]; exact ⟨by omega, by omega⟩, rfl⟩, e]
  rw [show boP (List.replicate n false) = List.replicate n (PV.bool false) from List.map_replicate]
theorem ent_sized (l : List Ent) : sized 3 (l.map entP) = true := by
  simp only [sized, List.all_eq_true, List.mem_map]
  rintro x ⟨r, _, rfl⟩
  rfl
theorem ent_nil {σ : Store} : aAppend σ ti54 .nilsl (entsA []) = some (.nilsl, σ) := rfl
theorem ent_new {σ : Store} {l : List Ent} (h : l ≠ []) (hl : l.length ≤ 1099511627776) : aAppend σ ti54 .nilsl (entsA l) = some (.arr σ.length l.length 0 l.length, σ ++ [.arr 3 (l.map entP) false]) := by
  show (if sized 3 (l.map entP) = true then (if l.map entP = [] then some (AV.nilsl, σ) else if roomy (l.map entP).length 40 then some (AV.arr σ.length (l.map entP).length 0 (l.map entP).length, σ ++ [SObj.arr 3 (l.map entP) false]) else none) else none) = _
  rw [if_pos (ent_sized l), if_neg (by simpa using h), if_pos ⟨by rw [List.length_map]; omega, by rw [List.length_map]; omega⟩, List.length_map]
theorem ent_more {l m : List Ent} (hl : l.length + m.length ≤ 1099511627776) : aAppend [.arr 3 (l.map entP) false] ti54 (.arr 0 l.length 0 l.length) (entsA m) = some (.arr 0 (l ++ m).length 0 (l ++ m).length, [.arr 3 ((l ++ m).map entP) false]) := by
  rw [append_pv (id := 0) (es := 3) (ver := l.length) (xs := l.map entP) (ys := m.map entP) rfl rfl (List.length_map _).symm rfl (ent_sized m) ⟨by rw [List.length_map, List.length_map]; omega, by rw [List.length_map, List.length_map]; show (l.length + m.length) * 40 ≤ _; omega⟩]
  simp
abbrev alS (l : List Ent) : Store := [.arr 3 (l.map entP) false]
theorem rn_check (ok : EntOK gone come) {l : List Ent} (hl : ∀ e ∈ l, e.t.length ≤ 4194304) (hn : l.length ≤ 8388608) (next : selvageref25_Renames.n37 (selvageref25_Renames.X w0 0) w0 0 (fun r _ => P r) (alS l) (entsA gone) (entsA come) least) : ∀ (f i : Nat), i + f = l.length →
    selvageref25_Renames.n20 (selvageref25_Renames.X w0 0) w0 0 (fun r _ => P r) (alS l) (entsA gone) (entsA come) least (.arr 0 l.length 0 l.length) i
  | 0, i, hi => by
    refine selvageref25_Renames.n20_in ?_
    rw [selvageref25_Renames.b21_eq]
    refine opt_in (v := .pv (.int .i64 (l.length : Nat))) rfl (isI_in ?_)
    rw [condB_decide, if_neg (by omega)]
    exact next
  | f + 1, i, hi => by
    have hlt : i < l.length := by omega
    have ge : l[i]? = some l[i] := List.getElem?_eq_getElem hlt
    generalize l[i] = e at ge
    have hle := hl e (List.mem_of_getElem? ge)
    have h31 : selvageref25_Renames.n31 (selvageref25_Renames.X w0 0) w0 0 (fun r _ => P r) (alS l) (entsA gone) (entsA come) least (.arr 0 l.length 0 l.length) i false := by
      refine selvageref25_Renames.n31_in ?_
      rw [selvageref25_Renames.b31_eq, condB_false', wrap_next hlt (by omega)]
      exact rn_check ok hl hn next f (i + 1) (by omega)
    have hx := idx_arr (σ := alS l) (tab := tabS) (e := 54) (ei := ti54) (id := 0) (es := 3) (ver := l.length) (off := 0) (len := l.length) (k := i) (xs := l.map entP) (fz := false) tab54 rfl hlt rfl (List.length_map _)
    rw [Nat.zero_add] at hx
    refine selvageref25_Renames.n20_in ?_
    rw [selvageref25_Renames.b21_eq]
    refine opt_in (v := .pv (.int .i64 (l.length : Nat))) rfl (isI_in ?_)
    rw [condB_decide, if_pos (by omega)]
    refine opt_in hx (opt_in (v := .eptr 0 l.length i 1) rfl ?_)
    refine opt_in (load_eptr (xs := l.map entP) rfl (List.length_map _) (ent_get ge) rfl rfl) (isI_in ?_)
    rw [condB_ibeq]
    refine ite_split (fun g => ?_) (fun g => h31)
    refine opt_in hx (opt_in (v := .eptr 0 l.length i 2) rfl ?_)
    refine opt_in (load_eptr (xs := l.map entP) rfl (List.length_map _) (ent_get ge) rfl rfl) (isS_in ?_)
    rw [show decide ((e.t.length : Int) > 4194304) = false by simp; omega]
    exact h31
theorem rRenames_spec {R : AV → Store → Prop} {σ : Store} (L : Laid w0.w) (ok : EntOK gone come) (h1 : 1 ≤ least → least ≤ 100 → R (rnA (pairsF gone come least)) σ) (h2 : least < 1 ∨ 100 < least → R (.tup [.nilsl, .pv (.int .i64 1)]) σ) : SCalls (cx w0) selvageref25_Renames.id [entsA gone, entsA come, .pv (.int .i64 least)] σ R := by
  have hgl := ok.gl
  have hcl := ok.cl
  by_cases hl : 1 ≤ least ∧ least ≤ 100
  · refine SCalls.alone L rfl (fun w1 L1 => ?_) rfl (h1 hl.1 hl.2)
    refine selvageref25_Renames.calls ?_
    rw [selvageref25_Renames.b0_eq, condB_decide, if_neg (by omega), show decide (least > 100) = false by simp; omega]
    refine selvageref25_Renames.n5_in ?_
    rw [selvageref25_Renames.b5_eq, condB_false']
    have h20 : selvageref25_Renames.n20 (selvageref25_Renames.X w1 0) w1 0 (fun r _ => r = rnA (pairsF gone come least)) (alS (gone ++ come)) (entsA gone) (entsA come) least (.arr 0 (gone ++ come).length 0 (gone ++ come).length) (0 : Nat) := by
      refine rn_check ok (l := gone ++ come) (fun e he => ?_) (by rw [List.length_append]; omega) ?_ (gone ++ come).length 0 (Nat.zero_add _)
      · rcases List.mem_append.1 he with h | h
        · exact ok.hg e h
        · exact ok.hc e h
      refine selvageref25_Renames.n37_in ?_
      rw [selvageref25_Renames.b37_eq]
      repeat ((with_reducible first | apply opt_in | apply wI | apply wT | apply wP | apply wS | apply wB); exact rfl)
      rw [List.length_map]
      refine opt2_in (mk_row (by omega)) ?_
      repeat ((with_reducible first | apply opt_in | apply wI | apply wT | apply wP | apply wS | apply wB); exact rfl)
      rw [List.length_map]
      refine opt2_in (mk_row (by omega)) ?_
      repeat ((with_reducible first | apply opt_in | apply wI | apply wT | apply wP | apply wS | apply wB); exact rfl)
      rw [List.length_map]
      refine opt2_in (mk_brow (by omega)) ?_
      have key := rn_match (P := fun r => r = rnA (pairsF gone come least)) L1 ok hl.1 hl.2 (gone.length + 1) (List.replicate gone.length 0) (List.replicate come.length false) (by have := zeros_le (List.replicate gone.length 0); rw [List.length_replicate] at this; omega) List.length_replicate List.length_replicate (fun t ht => .inl (List.eq_of_mem_replicate ht)) rfl
      unfold n45' rnS at key
      rw [pcF_first _ rfl] at key
      exact key
    by_cases e1 : gone = []
    · subst e1
      refine opt2_in ent_nil ?_
      by_cases e2 : come = []
      · subst e2
        refine opt2_in ent_nil ?_
        exact selvageref25_Renames.n20_weak (gone' := entsA []) (come' := entsA []) (least' := least) (all' := .arr 0 0 0 0) (i' := (0 : Nat)) (τ := alS []) (EWeak.nil (t := 8) (es := 3) rfl rfl) h20
      · refine opt2_in (ent_new e2 (by omega)) ?_
        exact h20
    · refine opt2_in (ent_new e1 (by omega)) ?_
      refine opt2_in (ent_more (by omega)) ?_
      exact h20
  · have h := h2 (by omega)
    refine SCalls.alone L rfl (fun w1 L1 => ?_) rfl h
    refine selvageref25_Renames.calls ?_
    have h5 : selvageref25_Renames.n5 (selvageref25_Renames.X w1 0) w1 0 (fun r _ => r = .tup [.nilsl, .pv (.int .i64 1)]) [] (entsA gone) (entsA come) least true := by
      refine selvageref25_Renames.n5_in ?_
      rw [selvageref25_Renames.b5_eq, condB_true']
      exact fin_keep (Nat.zero_le _) rfl
    rw [selvageref25_Renames.b0_eq, condB_decide]
    refine ite_split (fun g => h5) (fun g => ?_)
    rw [show decide (least > 100) = true by simp; omega]
    exact h5
end
end Go.Sv
end
section
namespace Go.Sv
open Go Go.RowKit Go.Proofs
theorem storeUnder_app {k : Nat} : ∀ {σ τ : Store}, storeUnder k σ = true → storeUnder k τ = true → storeUnder k (σ ++ τ) = true
  | [], τ, _, h => h
  | .cells ty cs :: r, τ, h1, h2 => by
    simp only [storeUnder, Bool.and_eq_true] at h1
    simp only [List.cons_append, storeUnder, Bool.and_eq_true]
    exact ⟨h1.1, storeUnder_app h1.2 h2⟩
  | .mp es :: r, τ, h1, h2 => by
    simp only [storeUnder, Bool.and_eq_true] at h1
    simp only [List.cons_append, storeUnder, Bool.and_eq_true]
    exact ⟨h1.1, storeUnder_app h1.2 h2⟩
  | .arr es xs fz :: r, τ, h1, h2 => storeUnder_app (σ := r) h1 h2
  | .bld ty el s :: r, τ, h1, h2 => storeUnder_app (σ := r) h1 h2
  | .gone :: r, τ, h1, h2 => storeUnder_app (σ := r) h1 h2
abbrev entC (e : Ent) : List AV := [.pv (.str e.p), .pv (.int .i64 e.k), .pv (.str e.t)]
section
variable {w0 : Base} {σ : Store} {R : AV → Store → Prop}
theorem file_spec {e : Ent} (hR : R (.pv (.bool (fileB e))) σ) : SCalls (cx w0) filediff_file.id [.pv (entP e)] σ R := by
  refine SCalls.wf fun hw _ => ?_
  have fin : ∀ q, q = fileB e → filediff_file.n4 (filediff_file.X w0 σ.length) w0 σ.length R (σ ++ [.cells 54 [.pv (.str e.p), .pv (.int .i64 e.k), .pv (.str e.t)]]) q := by
    rintro q rfl
    refine filediff_file.n4_in ?_
    rw [filediff_file.b4_eq]
    exact fin_cut glob0 hw rfl hR
  refine filediff_file.calls ?_
  rw [filediff_file.b0_eq]
  refine ⟨rfl, ?_⟩
  have hl : (σ ++ [SObj.cells 54 (AV.cells (.pv (entP e)))])[σ.length]? = some (.cells 54 [.pv (.str e.p), .pv (.int .i64 e.k), .pv (.str e.t)]) := by rw [List.getElem?_append_right (Nat.le_refl _), Nat.sub_self]; rfl
  refine opt_in (v := .ptr σ.length 1) rfl (opt_in (v := .pv (.int .i64 e.k)) (by rw [aLoad_cells hl]; rfl) (isI_in ?_))
  rw [condB_ibeq]
  refine ite_split (fun g => ?_) (fun g => fin _ ?_)
  · refine opt_in (v := .ptr σ.length 2) rfl (opt_in (v := .pv (.str e.t)) (by rw [aLoad_cells hl]; rfl) (isS_in (fin _ ?_)))
    unfold fileB; rw [if_pos g]
  · unfold fileB; rw [if_neg g]
theorem ent_var {σ : Store} {e : Ent} : aStore (σ ++ [.cells 54 (AV.ofValue ti54.zero).cells]) ti54 (.ptr σ.length 0) (.pv (entP e)) = some (σ ++ [.cells 54 (entC e)]) := by
  have hl : (σ ++ [SObj.cells 54 (AV.ofValue ti54.zero).cells])[σ.length]? = some (.cells 54 (AV.ofValue ti54.zero).cells) := by rw [List.getElem?_append_right (Nat.le_refl _), Nat.sub_self]; rfl
  have h2 : (σ ++ [SObj.cells 54 (AV.ofValue ti54.zero).cells]).set σ.length (.cells 54 (entC e)) = σ ++ [.cells 54 (entC e)] := by
    rw [List.set_append_right _ _ (Nat.le_refl _), Nat.sub_self]; rfl
  have e1 : (AV.pv (entP e)).cells = entC e := rfl
  unfold aStore
  rw [e1, if_pos (by exact ⟨rfl, rfl⟩)]
  simp only [hl]
  rw [if_pos (show 0 + (entC e).length ≤ (AV.ofValue ti54.zero).cells.length from Nat.le_refl 3)]
  exact congrArg some h2
end
def rowK (come : List Ent) (x : Ent) (k : Nat) : List Int := (come.take k).map (likeM x) ++ List.replicate (come.length - k) 0
theorem rowK_len {come : List Ent} {x : Ent} {k : Nat} (h : k ≤ come.length) : (rowK come x k).length = come.length := by
  unfold rowK
  rw [List.length_append, List.length_map, List.length_take, List.length_replicate]
  omega
theorem rowK_last (come : List Ent) (x : Ent) : rowK come x come.length = come.map (likeM x) := by
  unfold rowK
  rw [List.take_length, Nat.sub_self]
  simp
theorem rowK_get {come : List Ent} {x : Ent} {k : Nat} (h : k < come.length) : (rowK come x k)[k]? = some 0 := by
  unfold rowK
  rw [List.getElem?_append_right (by rw [List.length_map, List.length_take]; omega), List.getElem?_replicate, if_pos (by rw [List.length_map, List.length_take]; omega)]
theorem rowK_set {come : List Ent} {x y : Ent} {k : Nat} (h : come[k]? = some y) : (rowK come x k).set k (likeM x y) = rowK come x (k + 1) := by
  have hk := (List.getElem?_eq_some_iff.1 h).1
  have hl : ((come.take k).map (likeM x)).length = k := by rw [List.length_map, List.length_take]; omega
  unfold rowK
  rw [List.set_append_right _ _ (by omega), hl, Nat.sub_self, List.take_add_one, h, show come.length - k = (come.length - (k + 1)) + 1 by omega, List.replicate_succ]
  simp
theorem rowK_skip {come : List Ent} {x y : Ent} {k : Nat} (h : come[k]? = some y) (h0 : likeM x y = 0) : rowK come x k = rowK come x (k + 1) := by
  have hk := (List.getElem?_eq_some_iff.1 h).1
  rw [← rowK_set h, h0]
  refine ext_rows (n := come.length) (rowK_len (by omega)) (by rw [List.length_set]; exact rowK_len (by omega)) fun j hj => ?_
  by_cases e : j = k
  · subst e
    rw [List.getElem?_set_self (by rw [rowK_len (by omega)]; exact hj), rowK_get hk]
  · rw [List.getElem?_set_ne (fun h => e h.symm)]
section
variable {w0 : Base} {P : AV → Prop} {gone come : List Ent} {least : Int}
abbrev roS (A : Store) (come : List Ent) (x : Ent) (k : Nat) : Store := A ++ [.cells 54 (entC x), .arr 1 (iP (rowK come x k)) false]
abbrev l70 (w0 : Base) (P : AV → Prop) (gone come : List Ent) (least : Int) (A : Store) (x : Ent) (i k : Nat) (S : Store) : Prop := filediff_Renames.n70 (filediff_Renames.X w0 0) w0 0 (fun r _ => P r) S (entsA gone) (entsA come) least (.avs 0 gone.length) i (.ptr A.length 0) (entsA gone) gone.length i (entsA come) come.length k
theorem roS_x (A : Store) (come : List Ent) (x : Ent) (k : Nat) (L : Store) : (roS A come x k ++ L)[A.length]? = some (.cells 54 (entC x)) := by
  rw [List.append_assoc, List.getElem?_append_right (Nat.le_refl _), Nat.sub_self]; rfl
theorem roS_row (A : Store) (come : List Ent) (x : Ent) (k : Nat) (L : Store) : (roS A come x k ++ L)[A.length + 1]? = some (.arr 1 (iP (rowK come x k)) false) := by
  rw [List.append_assoc, List.getElem?_append_right (by omega), show A.length + 1 - A.length = 1 by omega]; rfl
theorem roS_len (A : Store) (come : List Ent) (x : Ent) (k : Nat) : (roS A come x k).length = A.length + 2 := by rw [List.length_append]; rfl
theorem roS_set (A : Store) (come : List Ent) (x : Ent) (k : Nat) (r : List Int) (c : SObj) : (roS A come x k ++ [c]).set (A.length + 1) (.arr 1 (iP r) false) = A ++ [.cells 54 (entC x), .arr 1 (iP r) false] ++ [c] := by
  rw [List.append_assoc, List.append_assoc, List.set_append_right _ _ (by omega), show A.length + 1 - A.length = 1 by omega]; rfl
theorem like_row (L : Laid w0.w) (ok : EntOK gone come) {A : Store} {cs : List AV} {x : Ent} {i : Nat} (gx : gone[i]? = some x) (hA0 : A[0]? = some (.cells 43 cs)) (hci : cs[i]? = some (.arr (A.length + 1) come.length 0 come.length)) (hw : storeUnder (A.length + 2) A = true)
    (next : filediff_Renames.n54 (filediff_Renames.X w0 0) w0 0 (fun r _ => P r) (A ++ [.cells 54 (entC x), .arr 1 (iP (come.map (likeM x))) false]) (entsA gone) (entsA come) least (.avs 0 gone.length) (entsA gone) gone.length ((i + 1 : Nat) : Int)) :
    ∀ (f k : Nat), k + f = come.length → l70 w0 P gone come least A x i k (roS A come x k)
  | 0, k, hk => by
    have hgl := ok.gl
    have li := (List.getElem?_eq_some_iff.1 gx).1
    refine filediff_Renames.n70_in ?_
    rw [filediff_Renames.b71_eq, condB_decide, if_neg (by omega)]
    refine filediff_Renames.n99_in ?_
    rw [filediff_Renames.b99_eq, wrap_next li (by omega), show k = come.length by omega]
    unfold roS
    rw [rowK_last]
    exact next
  | f + 1, k, hk => by
    have hgl := ok.gl
    have hcl := ok.cl
    have hlt : k < come.length := by omega
    have gy : come[k]? = some come[k] := List.getElem?_eq_getElem hlt
    generalize come[k] = y at gy
    have ih := like_row L ok gx hA0 hci hw next f (k + 1) (by omega)
    have h98 : ∀ c : SObj, filediff_Renames.n98 (filediff_Renames.X w0 0) w0 0 (fun r _ => P r) (roS A come x (k + 1) ++ [c]) (entsA gone) (entsA come) least (.avs 0 gone.length) i (.ptr A.length 0) (entsA gone) gone.length i (entsA come) come.length k := by
      intro c
      refine filediff_Renames.n98_in ?_
      rw [filediff_Renames.b98_eq, wrap_next hlt (by omega)]
      refine filediff_Renames.n70_weak (EWeak.drop (τ := roS A come x (k + 1)) (L := [c]) glob0 (Nat.zero_le _) ?_ ?_) ih
      · show storeUnder (roS A come x (k + 1)).length _ = true
        rw [roS_len]
        exact storeUnder_app hw rfl
      · rw [roS_len]
        have e1 : Nat.ble (A.length + 1) (A.length + 2) = true := by rw [Nat.ble_eq]; omega
        have e2 : Nat.ble (0 + 1) (A.length + 2) = true := by rw [Nat.ble_eq]; omega
        simp only [envUnder, AV.under, e1, e2, Bool.and_true]
    have skip : likeM x y = 0 → filediff_Renames.n84 (filediff_Renames.X w0 0) w0 0 (fun r _ => P r) (roS A come x k ++ [.cells 54 (entC y)]) (entsA gone) (entsA come) least (.avs 0 gone.length) i (.ptr A.length 0) k (.ptr (roS A come x k).length 0) (entsA gone) gone.length i (entsA come) come.length k true := by
      intro h
      refine filediff_Renames.n84_in ?_
      rw [filediff_Renames.b84_eq, condB_true']
      have := h98 (.cells 54 (entC y))
      unfold roS at this
      rw [← rowK_skip gy h] at this
      exact this
    have hx0 := roS_x A come x k [.cells 54 (entC y)]
    have hy0 : (roS A come x k ++ [.cells 54 (entC y)])[(roS A come x k).length]? = some (.cells 54 (entC y)) := by rw [List.getElem?_append_right (Nat.le_refl _), Nat.sub_self]; rfl
    have hr0 := roS_row A come x k [.cells 54 (entC y)]
    have hc0 : (roS A come x k ++ [.cells 54 (entC y)])[0]? = some (.cells 43 cs) := by
      rw [List.append_assoc]
      exact get_old _ hA0
    have take : fileB x = true → fileB y = true → filediff_Renames.n84 (filediff_Renames.X w0 0) w0 0 (fun r _ => P r) (roS A come x k ++ [.cells 54 (entC y)]) (entsA gone) (entsA come) least (.avs 0 gone.length) i (.ptr A.length 0) k (.ptr (roS A come x k).length 0) (entsA gone) gone.length i (entsA come) come.length k false := by
      intro h1 h2
      have hv : likeM x y = (simN x.t y.t : Int) := by unfold likeM; rw [if_pos ⟨h1, h2⟩]
      refine filediff_Renames.n84_in ?_
      rw [filediff_Renames.b84_eq, condB_false']
      refine opt_in (v := .ptr A.length 2) rfl (opt_in (v := .pv (.str x.t)) (by rw [aLoad_cells hx0]; rfl) (isS_in ?_))
      refine opt_in (v := .ptr (roS A come x k).length 2) rfl (opt_in (v := .pv (.str y.t)) (by rw [aLoad_cells hy0]; rfl) (isS_in ?_))
      refine Similarity_spec L ?_
      unfold simA
      rw [if_pos ⟨ok.hg x (List.mem_of_getElem? gx), ok.hc y (List.mem_of_getElem? gy)⟩]
      repeat ((with_reducible first | apply opt_in | apply wI | apply wT | apply wP | apply wS | apply wB); exact rfl)
      rw [neq_raw]
      refine opt_in rfl (opt_in (v := true) rfl (isB_in ?_))
      rw [Bool.not_true, condB_false', ← hv]
      have li := (List.getElem?_eq_some_iff.1 gx).1
      refine opt_in (v := .ptr 0 i) ?_ ?_
      · show (if (0 : Int) ≤ (i : Int) ∧ (i : Int) < (gone.length : Nat) ∧ (1 : Nat) = 1 then some (AV.ptr 0 (i : Int).toNat) else none) = _
        rw [if_pos ⟨by omega, by omega, rfl⟩, Int.toNat_natCast]
      refine opt_in (v := .arr (A.length + 1) come.length 0 come.length) ?_ ?_
      · rw [aLoad_cells hc0]
        exact hci
      refine opt_in (arr_idx (i := A.length + 1) (c := rowK come x k) (fz := false) hr0 (rowK_len (by omega)) hlt) ?_
      refine opt_in (arr_store (i := A.length + 1) (c := rowK come x k) hr0 (rowK_len (by omega)) (rowK_get hlt)) ?_
      rw [rowK_set gy, roS_set]
      exact h98 _
    refine filediff_Renames.n70_in ?_
    rw [filediff_Renames.b71_eq, condB_decide, if_pos (by omega)]
    refine opt_in (idx_ro tab54 (ent_get gy) rfl) ?_
    refine opt_in (v := .pv (entP y)) rfl ?_
    refine opt_in ent_var ?_
    refine opt_in (v := .pv (entP x)) (by rw [aLoad_cells hx0]; rfl) ?_
    refine file_spec (isB_in ?_)
    rw [condB_not]
    refine condB_split (fun g3 => ?_) (fun g3 => skip ?_)
    · refine opt_in (v := .pv (entP y)) (by rw [aLoad_cells hy0]; rfl) ?_
      refine file_spec (isB_in ?_)
      cases g4 : fileB y with
      | true => exact take g3 g4
      | false =>
        refine skip ?_
        unfold likeM; rw [if_neg (fun h => by rw [g4] at h; cases h.2)]
    · unfold likeM; rw [if_neg (fun h => by rw [g3] at h; cases h.1)]
end
end Go.Sv
end
section
namespace Go.Sv
open Go Go.RowKit Go.Proofs
def lkC (n m i : Nat) : List AV := (List.range n).map fun j => if j < i then .arr (2 * j + 2) m 0 m else .nilsl
def lkT (come : List Ent) (g : List Ent) : Store := g.flatMap fun x => [.cells 54 (entC x), .arr 1 (iP (come.map (likeM x))) false]
theorem lkC_len (n m i : Nat) : (lkC n m i).length = n := by unfold lkC; simp
theorem lkC_get {n m i j : Nat} (h : j < n) : (lkC n m i)[j]? = some (if j < i then .arr (2 * j + 2) m 0 m else .nilsl) := by
  unfold lkC
  rw [List.getElem?_map, List.getElem?_range h]; rfl
theorem lkC_first (n m : Nat) : lkC n m 0 = List.replicate n .nilsl := by
  refine List.ext_getElem? fun j => ?_
  by_cases h : j < n
  · rw [lkC_get h, List.getElem?_replicate, if_pos h, if_neg (by omega)]
  · rw [List.getElem?_eq_none (by rw [lkC_len]; omega), List.getElem?_eq_none (by rw [List.length_replicate]; omega)]
theorem lkC_set {n m i : Nat} (h : i < n) : splice (lkC n m i) i [.arr (2 * i + 2) m 0 m] = lkC n m (i + 1) := by
  refine List.ext_getElem? fun j => ?_
  have e : splice (lkC n m i) i [AV.arr (2 * i + 2) m 0 m] = (lkC n m i).set i (.arr (2 * i + 2) m 0 m) := by
    rw [List.set_eq_take_append_cons_drop, if_pos (by rw [lkC_len]; exact h)]
    rfl
  rw [e]
  by_cases hj : j < n
  · rw [lkC_get hj]
    by_cases e : j = i
    · subst e
      rw [List.getElem?_set_self (by rw [lkC_len]; exact hj), if_pos (by omega)]
    · rw [List.getElem?_set_ne (fun h => e h.symm), lkC_get hj]
      by_cases g : j < i
      · rw [if_pos g, if_pos (by omega)]
      · rw [if_neg g, if_neg (by omega)]
  · rw [List.getElem?_eq_none (by rw [List.length_set, lkC_len]; omega), List.getElem?_eq_none (by rw [lkC_len]; omega)]
theorem lkT_len (come : List Ent) : ∀ g : List Ent, (lkT come g).length = 2 * g.length
  | [] => rfl
  | x :: g => by
    have := lkT_len come g
    unfold lkT at this ⊢
    rw [List.flatMap_cons, List.length_append, this, List.length_cons]
    show 2 + 2 * g.length = 2 * (g.length + 1)
    omega
theorem lkT_row {come : List Ent} : ∀ {g : List Ent} {j : Nat} {x : Ent}, g[j]? = some x → (lkT come g)[2 * j + 1]? = some (.arr 1 (iP (come.map (likeM x))) false)
  | [], j, x, h => by simp at h
  | y :: g, 0, x, h => by
    simp only [List.getElem?_cons_zero, Option.some.injEq] at h
    subst h
    rfl
  | y :: g, j + 1, x, h => by
    have ih := lkT_row (come := come) (g := g) (j := j) (x := x) (by simpa using h)
    unfold lkT at ih ⊢
    rw [List.flatMap_cons, List.getElem?_append_right (by show 2 ≤ _; omega)]
    show (lkT come g)[2 * (j + 1) + 1 - 2]? = _
    rw [show 2 * (j + 1) + 1 - 2 = 2 * j + 1 by omega]
    exact ih
theorem lkT_snoc {come g : List Ent} {x : Ent} : lkT come (g ++ [x]) = lkT come g ++ [.cells 54 (entC x), .arr 1 (iP (come.map (likeM x))) false] := by
  unfold lkT
  rw [List.flatMap_append]
  rfl
theorem lkT_under (k : Nat) (come : List Ent) : ∀ g : List Ent, storeUnder k (lkT come g) = true
  | [] => rfl
  | x :: g => lkT_under k come g
theorem lkC_under {n m i k : Nat} (h : 2 * i + 1 ≤ k) : AV.unders k (lkC n m i) = true := by
  refine unders_of fun j a ha => ?_
  have hj : j < n := by
    have := (List.getElem?_eq_some_iff.1 ha).1
    rwa [lkC_len] at this
  rw [lkC_get hj] at ha
  split at ha
  · cases ha
    show Nat.ble _ _ = true
    rw [Nat.ble_eq]; omega
  · cases ha; rfl
abbrev lkS (gone come : List Ent) (i : Nat) : Store := .cells 43 (lkC gone.length come.length i) :: lkT come (gone.take i)
theorem lkS_len {gone come : List Ent} {i : Nat} (h : i ≤ gone.length) : (lkS gone come i).length = 2 * i + 1 := by
  rw [List.length_cons, lkT_len, List.length_take, Nat.min_eq_left h]
section
variable {w0 : Base} {P : AV → Prop} {gone come : List Ent} {least : Int}
abbrev l54 (w0 : Base) (P : AV → Prop) (gone come : List Ent) (least : Int) (i : Nat) : Prop := filediff_Renames.n54 (filediff_Renames.X w0 0) w0 0 (fun r _ => P r) (lkS gone come i) (entsA gone) (entsA come) least (.avs 0 gone.length) (entsA gone) gone.length i
theorem like_loop (L : Laid w0.w) (ok : EntOK gone come) (next : filediff_Renames.n100 (filediff_Renames.X w0 0) w0 0 (fun r _ => P r) (lkS gone come gone.length) (entsA gone) (entsA come) least (.avs 0 gone.length)) : ∀ (f i : Nat), i + f = gone.length → l54 w0 P gone come least i
  | 0, i, hi => by
    refine filediff_Renames.n54_in ?_
    rw [filediff_Renames.b55_eq, condB_decide, if_neg (by omega), show i = gone.length by omega]
    exact next
  | f + 1, i, hi => by
    have hgl := ok.gl
    have hcl := ok.cl
    have hlt : i < gone.length := by omega
    have gx : gone[i]? = some gone[i] := List.getElem?_eq_getElem hlt
    generalize gone[i] = x at gx
    have ih := like_loop L ok next f (i + 1) (by omega)
    have hA : (.cells 43 (lkC gone.length come.length (i + 1)) :: lkT come (gone.take i) : Store).length = 2 * i + 1 := lkS_len (come := come) (by omega)
    refine filediff_Renames.n54_in ?_
    rw [filediff_Renames.b55_eq, condB_decide, if_pos (by omega)]
    refine opt_in (idx_ro tab54 (ent_get gx) rfl) ?_
    refine opt_in (v := .pv (entP x)) rfl ?_
    refine opt_in ent_var ?_
    repeat ((with_reducible first | apply opt_in | apply wI | apply wT | apply wP | apply wS | apply wB); exact rfl)
    rw [List.length_map]
    refine opt2_in (mk_row (by omega)) ?_
    refine opt_in (v := .ptr 0 i) ?_ ?_
    · show (if (0 : Int) ≤ (i : Int) ∧ (i : Int) < (gone.length : Nat) ∧ (1 : Nat) = 1 then some (AV.ptr 0 (i : Int).toNat) else none) = _
      rw [if_pos ⟨by omega, by omega, rfl⟩, Int.toNat_natCast]
    have hst : aStore (lkS gone come i ++ [.cells 54 (entC x)] ++ [.arr 1 (iP (List.replicate come.length 0)) false]) ti43 (.ptr 0 i) (.arr (lkS gone come i ++ [SObj.cells 54 (entC x)]).length come.length 0 come.length) = some (roS (.cells 43 (lkC gone.length come.length (i + 1)) :: lkT come (gone.take i)) come x 0) := by
      have e1 : (lkS gone come i ++ [SObj.cells 54 (entC x)]).length = 2 * i + 2 := by rw [List.length_append, lkS_len (by omega)]; rfl
      rw [e1]
      unfold aStore
      show (if (1 = 1 ∧ true = true) then (if i + 1 ≤ (lkC gone.length come.length i).length then some (List.set (lkS gone come i ++ [SObj.cells 54 (entC x)] ++ [.arr 1 (iP (List.replicate come.length 0)) false]) 0 (SObj.cells 43 (splice (lkC gone.length come.length i) i [AV.arr (2 * i + 2) come.length 0 come.length]))) else none) else none) = _
      rw [if_pos ⟨rfl, rfl⟩, if_pos (by rw [lkC_len]; omega), lkC_set hlt]
      unfold roS rowK
      simp
    refine opt_in hst ?_
    repeat ((with_reducible first | apply opt_in | apply wI | apply wT | apply wP | apply wS | apply wB); exact rfl)
    rw [List.length_map]
    refine (fun key => ?_) (like_row (w0 := w0) (P := P) (least := least) L ok (A := .cells 43 (lkC gone.length come.length (i + 1)) :: lkT come (gone.take i)) (cs := lkC gone.length come.length (i + 1)) gx rfl (by rw [lkC_get hlt, if_pos (by omega), hA]) ?_ ?_ come.length 0 (Nat.zero_add _))
    · unfold l70 at key
      rw [hA] at key
      rw [lkS_len (by omega)]
      exact key
    · rw [hA]
      show (AV.unders _ (lkC gone.length come.length (i + 1)) && storeUnder _ (lkT come (gone.take i))) = true
      rw [lkC_under (by omega), lkT_under]; rfl
    · have e2 : gone.take (i + 1) = gone.take i ++ [x] := by rw [List.take_add_one, gx]; rfl
      unfold l54 lkS at ih
      rw [e2, lkT_snoc] at ih
      exact ih
end
end Go.Sv
end
