/- Files that went and came elsewhere: the program's search for the best pair, pair by pair, and what it answers. Files that went and came elsewhere: what the program answers. -/
import Derived.Test.YtimmjplgogpglaaDoorFrE
set_option linter.unusedVariables false
set_option linter.unusedSimpArgs false
set_option maxRecDepth 100000
section
namespace Go.Sv
open Go Go.RowKit Go.Proofs
theorem stB_up {v : Nat → Nat → Int} {i k : Nat} {s : Bst} (h : 0 ≤ s.b) : 0 ≤ (stB v i k s).b := by
  unfold stB
  split
  · rename_i g; show 0 ≤ v i k; omega
  · exact h
theorem inB_up {v : Nat → Nat → Int} {i : Nat} : ∀ (f k : Nat) {s : Bst}, 0 ≤ s.b → 0 ≤ (inB v i f k s).b
  | 0, _, _, h => h
  | f + 1, k, _, h => inB_up f (k + 1) (stB_up h)
structure LikeOK (B : Store) (cs : List AV) (gone come : List Ent) : Prop where
  b0 : B[0]? = some (.cells 43 cs)
  row : ∀ (i : Nat) x, gone[i]? = some x → ∃ id : Nat, cs[i]? = some (.arr id come.length 0 come.length) ∧ B[id]? = some (.arr 1 (iP (come.map (likeM x))) false)
  wf : storeUnder B.length B = true
section
variable {w0 : Base} {P : AV → Prop} {gone come : List Ent} {least : Int} {B : Store} {cs : List AV} {to : List Int} {tk : List Bool}
abbrev seS (B : Store) (to : List Int) (tk : List Bool) : Store := B ++ [.arr 1 (iP to) false, .arr 1 (boP tk) false]
theorem seS_to (B : Store) (to : List Int) (tk : List Bool) (L : Store) : (seS B to tk ++ L)[B.length]? = some (.arr 1 (iP to) false) := by rw [List.append_assoc, List.getElem?_append_right (Nat.le_refl _), Nat.sub_self]; rfl
theorem seS_tk (B : Store) (to : List Int) (tk : List Bool) (L : Store) : (seS B to tk ++ L)[B.length + 1]? = some (.arr 1 (boP tk) false) := by rw [List.append_assoc, List.getElem?_append_right (by omega), show B.length + 1 - B.length = 1 by omega]; rfl
theorem seS_len (B : Store) (to : List Int) (tk : List Bool) : (seS B to tk).length = B.length + 2 := by rw [List.length_append]; rfl
theorem like_at (ok : EntOK gone come) (T : LikeOK B cs gone come) {i k : Nat} {x y : Ent} (gx : gone[i]? = some x) (gy : come[k]? = some y) (M : Store) {K : Int → Prop} (hK : K (likeM x y)) :
    opt (aIndexAddr (B ++ M) tabS ti56.td (.avs 0 gone.length) (i : Int)) fun t147 => opt (aLoad (B ++ M) ti43 t147) fun t148 => opt (aIndexAddr (B ++ M) tabS ti43.td t148 (k : Int)) fun t150 => opt (aLoad (B ++ M) ti3 t150) fun t151 => isI .i64 t151 K := by
  have li := (List.getElem?_eq_some_iff.1 gx).1
  have lk := (List.getElem?_eq_some_iff.1 gy).1
  obtain ⟨id, h1, h2⟩ := T.row i x gx
  refine opt_in (v := .ptr 0 i) ?_ ?_
  · show (if (0 : Int) ≤ (i : Int) ∧ (i : Int) < (gone.length : Nat) ∧ (1 : Nat) = 1 then some (AV.ptr 0 (i : Int).toNat) else none) = _
    rw [if_pos ⟨by omega, by omega, rfl⟩, Int.toNat_natCast]
  refine opt_in (v := .arr id come.length 0 come.length) ?_ ?_
  · rw [aLoad_cells (get_old M T.b0)]
    exact h1
  refine opt_in (arr_idx (i := id) (c := come.map (likeM x)) (fz := false) (get_old M h2) (List.length_map _) lk) ?_
  refine opt_in (arr_load (i := id) (c := come.map (likeM x)) (fz := false) (get_old M h2) (List.length_map _) (by rw [List.getElem?_map, gy]; rfl)) ?_
  exact isI_in hK
abbrev p144 (w0 : Base) (P : AV → Prop) (gone come : List Ent) (least : Int) (B : Store) (to : List Int) (tk : List Bool) (s : Bst) (i k : Nat) : Prop := filediff_Renames.n144 (filediff_Renames.X w0 0) w0 0 (fun r _ => P r) (seS B to tk) (entsA gone) (entsA come) least (.avs 0 gone.length) (iArr B.length gone.length) (iArr (B.length + 1) come.length) s.b s.x s.y i gone.length i come.length k
abbrev p128 (w0 : Base) (P : AV → Prop) (gone come : List Ent) (least : Int) (B : Store) (to : List Int) (tk : List Bool) (s : Bst) (i k : Nat) : Prop := filediff_Renames.n128 (filediff_Renames.X w0 0) w0 0 (fun r _ => P r) (seS B to tk) (entsA gone) (entsA come) least (.avs 0 gone.length) (iArr B.length gone.length) (iArr (B.length + 1) come.length) s.b s.x s.y i gone.length i come.length k
abbrev p141 (w0 : Base) (P : AV → Prop) (gone come : List Ent) (least : Int) (B : Store) (to : List Int) (tk : List Bool) (s : Bst) (i k : Nat) (q : Bool) : Prop := filediff_Renames.n141 (filediff_Renames.X w0 0) w0 0 (fun r _ => P r) (seS B to tk) (entsA gone) (entsA come) least (.avs 0 gone.length) (iArr B.length gone.length) (iArr (B.length + 1) come.length) s.b s.x s.y i k gone.length i come.length k q
abbrev p114 (w0 : Base) (P : AV → Prop) (gone come : List Ent) (least : Int) (B : Store) (to : List Int) (tk : List Bool) (s : Bst) (i : Nat) : Prop := filediff_Renames.n114 (filediff_Renames.X w0 0) w0 0 (fun r _ => P r) (seS B to tk) (entsA gone) (entsA come) least (.avs 0 gone.length) (iArr B.length gone.length) (iArr (B.length + 1) come.length) s.b s.x s.y gone.length i
theorem se_pair (ok : EntOK gone come) (T : LikeOK B cs gone come) (ht : to.length = gone.length) (hk : tk.length = come.length) {s : Bst} {i k : Nat} {x y : Ent} (gx : gone[i]? = some x) (gy : come[k]? = some y)
    (s0 : 0 ≤ s.b) (next : p144 w0 P gone come least B to tk (stB (vF gone come to tk) i k s) i k) : p128 w0 P gone come least B to tk s i k := by
  have li := (List.getElem?_eq_some_iff.1 gx).1
  have hklt := (List.getElem?_eq_some_iff.1 gy).1
  have gt : to[i]? = some (to[i]'(by omega)) := List.getElem?_eq_getElem _
  have gk : tk[k]? = some (tk[k]'(by omega)) := List.getElem?_eq_getElem _
  have skip : vF gone come to tk i k = 0 → p141 w0 P gone come least B to tk s i k false := by
    intro h
    refine filediff_Renames.n141_in ?_
    rw [filediff_Renames.b141_eq, condB_false']
    unfold stB at next
    rw [h, if_neg (by omega)] at next
    exact next
  have ht0 := seS_to B to tk []
  have hk0 := seS_tk B to tk []
  rw [List.append_nil] at ht0 hk0
  refine filediff_Renames.n128_in ?_
  rw [filediff_Renames.b129_eq, condB_decide, if_pos (by omega)]
  refine opt_in (arr_idx (i := B.length) (c := to) (fz := false) ht0 ht li) ?_
  refine opt_in (arr_load (i := B.length) (c := to) (fz := false) ht0 ht gt) (isI_in ?_)
  rw [condB_ibeq]
  refine ite_split (fun g1 => ?_) (fun g1 => skip ?_)
  · rw [g1] at gt
    refine opt_in (bo_idx (i := B.length + 1) (c := tk) (fz := false) hk0 hk hklt) ?_
    refine opt_in (bo_load (i := B.length + 1) (c := tk) (fz := false) hk0 hk gk) (isB_in ?_)
    rw [condB_not]
    refine condB_split (fun g2 => skip ?_) (fun g2 => ?_)
    · unfold vF; rw [if_neg (fun h => by rw [gk, g2] at h; simp at h)]
    · rw [g2] at gk
      have hv : vF gone come to tk i k = likeM x y := by unfold vF; rw [if_pos ⟨gt, gk⟩, gx, gy]
      refine like_at ok T gx gy _ ?_
      unfold stB at next
      rw [hv] at next
      by_cases g : likeM x y > s.b
      · rw [if_pos g] at next
        rw [show decide (likeM x y > s.b) = true by simpa using g]
        refine filediff_Renames.n141_in ?_
        rw [filediff_Renames.b141_eq, condB_true']
        exact like_at ok T gx gy _ next
      · rw [if_neg g] at next
        rw [show decide (likeM x y > s.b) = false by simpa using g]
        refine filediff_Renames.n141_in ?_
        rw [filediff_Renames.b141_eq, condB_false']
        exact next
  · unfold vF; rw [if_neg (fun h => by rw [gt] at h; exact g1 (by simpa using h.1))]
theorem se_in (ok : EntOK gone come) (T : LikeOK B cs gone come) (ht : to.length = gone.length) (hk : tk.length = come.length) {i : Nat} {x : Ent} (gx : gone[i]? = some x) : ∀ (f k : Nat) (s : Bst), k + f = come.length → 0 ≤ s.b →
    p114 w0 P gone come least B to tk (inB (vF gone come to tk) i f k s) (i + 1) → p128 w0 P gone come least B to tk s i k
  | 0, k, s, hf, s0, next => by
    have hgl := ok.gl
    have li := (List.getElem?_eq_some_iff.1 gx).1
    refine filediff_Renames.n128_in ?_
    rw [filediff_Renames.b129_eq, condB_decide, if_neg (by omega)]
    refine filediff_Renames.n145_in ?_
    rw [filediff_Renames.b145_eq, wrap_next li (by omega)]
    exact next
  | f + 1, k, s, hf, s0, next => by
    have hcl := ok.cl
    have hlt : k < come.length := by omega
    refine se_pair ok T ht hk gx (List.getElem?_eq_getElem hlt) s0 ?_
    refine filediff_Renames.n144_in ?_
    rw [filediff_Renames.b144_eq, wrap_next hlt (by omega)]
    exact se_in ok T ht hk gx f (k + 1) _ (by omega) (stB_up s0) next
theorem se_out (ok : EntOK gone come) (T : LikeOK B cs gone come) (ht : to.length = gone.length) (hk : tk.length = come.length) : ∀ (f i : Nat) (s : Bst), i + f = gone.length → 0 ≤ s.b →
    (∀ s', s' = outB (vF gone come to tk) come.length f i s → filediff_Renames.n146 (filediff_Renames.X w0 0) w0 0 (fun r _ => P r) (seS B to tk) (entsA gone) (entsA come) least (.avs 0 gone.length) (iArr B.length gone.length) (iArr (B.length + 1) come.length) s'.x s'.y) → p114 w0 P gone come least B to tk s i
  | 0, i, s, hf, s0, next => by
    refine filediff_Renames.n114_in ?_
    rw [filediff_Renames.b115_eq, condB_decide, if_neg (by omega)]
    exact next s rfl
  | f + 1, i, s, hf, s0, next => by
    have hlt : i < gone.length := by omega
    refine filediff_Renames.n114_in ?_
    rw [filediff_Renames.b115_eq, condB_decide, if_pos (by omega)]
    repeat ((with_reducible first | apply opt_in | apply wI | apply wT | apply wP | apply wS | apply wB); exact rfl)
    rw [List.length_map]
    refine se_in ok T ht hk (List.getElem?_eq_getElem hlt) come.length 0 s (Nat.zero_add _) s0 ?_
    exact se_out ok T ht hk f (i + 1) _ (by omega) (inB_up come.length 0 s0) next
end
end Go.Sv
end
section
namespace Go.Sv
open Go Go.RowKit Go.Proofs
section
variable {w0 : Base} {P : AV → Prop} {gone come : List Ent} {least : Int} {B : Store} {cs : List AV} {to : List Int} {tk : List Bool}
def prA (l : List Mv) : AV := .tup [.pv (.sl (l.map mvP)), .pv (.raw .nilIface)]
abbrev seO (B : Store) (to : List Int) (tk : List Bool) (l : List Mv) : Store := seS B to tk ++ [.arr 3 (l.map mvP) false]
abbrev o159 (w0 : Base) (P : AV → Prop) (gone come : List Ent) (B : Store) (l : List Mv) (i : Nat) (S : Store) : Prop := filediff_Renames.n159 (filediff_Renames.X w0 0) w0 0 (fun r _ => P r) S (entsA come) (.avs 0 gone.length) (iArr B.length gone.length) (.arr (B.length + 2) l.length 0 l.length) (entsA gone) gone.length i
theorem se_list (ok : EntOK gone come) (T : LikeOK B cs gone come) (ht : to.length = gone.length) (hin : InTo come.length to) (hP : P (prA (movF come gone to))) : ∀ (f i : Nat) (l : List Mv), i + f = gone.length → l.length ≤ i → l ++ movF come (gone.drop i) (to.drop i) = movF come gone to →
    o159 w0 P gone come B l i (seO B to tk l)
  | 0, i, l, hf, hl, he => by
    have hgl := ok.gl
    refine filediff_Renames.n159_in ?_
    rw [filediff_Renames.b160_eq, condB_decide, if_neg (by omega)]
    refine filediff_Renames.n178_in ?_
    rw [filediff_Renames.b178_eq]
    rw [List.drop_eq_nil_of_le (by omega)] at he
    simp only [movF, List.append_nil] at he
    subst he
    refine fin_seal (σ := []) (L := seO B to tk _) (r' := prA (movF come gone to)) glob0 rfl ?_ hP
    have ho : ([] ++ seO B to tk (movF come gone to))[B.length + 2]? = some (.arr 3 ((movF come gone to).map mvP) false) := by
      rw [List.nil_append, List.getElem?_append_right (by rw [seS_len]; omega), seS_len, Nat.sub_self]; rfl
    have e1 : sealV 0 ([] ++ seO B to tk (movF come gone to)) (.arr (B.length + 2) (movF come gone to).length 0 (movF come gone to).length) = some (.pv (.sl ((movF come gone to).map mvP))) := by
      simp only [sealV, show Nat.ble 0 (B.length + 2) = true from rfl, ho]
      rw [if_pos ⟨List.length_map _, by omega⟩]
      simp [List.take_of_length_le]
    show (match sealV 0 ([] ++ seO B to tk (movF come gone to)) (.arr (B.length + 2) (movF come gone to).length 0 (movF come gone to).length), sealEs 0 ([] ++ seO B to tk (movF come gone to)) [.pv (.raw .nilIface)] with
      | some b, some s => some (b :: s)
      | _, _ => none).map AV.tup = _
    rw [e1]; rfl
  | f + 1, i, l, hf, hl, he => by
    have hgl := ok.gl
    have hcl := ok.cl
    have hlt : i < gone.length := by omega
    have gx : gone[i]? = some gone[i] := List.getElem?_eq_getElem hlt
    have gt : to[i]? = some (to[i]'(by omega)) := List.getElem?_eq_getElem _
    generalize gone[i] = x at gx
    generalize to[i]'(by omega) = t at gt
    rw [movF_drop gx gt] at he
    have step : ∀ l', l'.length ≤ i + 1 → l' ++ movF come (gone.drop (i + 1)) (to.drop (i + 1)) = movF come gone to → filediff_Renames.n177 (filediff_Renames.X w0 0) w0 0 (fun r _ => P r) (seO B to tk l' ++ [.cells 54 (entC x)]) (entsA come) (.avs 0 gone.length) (iArr B.length gone.length) (.arr (B.length + 2) l'.length 0 l'.length) (entsA gone) gone.length i := by
      intro l' h1 h2
      refine filediff_Renames.n177_in ?_
      rw [filediff_Renames.b177_eq, wrap_next hlt (by omega)]
      refine filediff_Renames.n159_weak (EWeak.drop (τ := seO B to tk l') (L := [.cells 54 (entC x)]) glob0 (Nat.zero_le _) ?_ ?_) (se_list ok T ht hin hP f (i + 1) l' (by omega) h1 h2)
      · have hlen : (seO B to tk l').length = B.length + 3 := by rw [List.length_append, seS_len]; rfl
        show storeUnder (seO B to tk l').length _ = true
        rw [hlen]
        refine storeUnder_app (storeUnder_app ?_ rfl) rfl
        have up : ∀ {k k' : Nat} {S : Store}, k ≤ k' → storeUnder k S = true → storeUnder k' S = true := by
          intro k k' S hle h
          refine storeUnder_of (fun id ty cs ho => ?_) (fun id es ho => ?_)
          · exact unders_mono hle _ (storeUnder_get h ho)
          · exact unders_mono hle _ (storeUnder_mp h ho)
        exact up (by omega) T.wf
      · have hlen : (seO B to tk l').length = B.length + 3 := by rw [List.length_append, seS_len]; rfl
        rw [hlen]
        have e1 : Nat.ble (B.length + 1) (B.length + 3) = true := by rw [Nat.ble_eq]; omega
        have e2 : Nat.ble (0 + 1) (B.length + 3) = true := by rw [Nat.ble_eq]; omega
        have e3 : Nat.ble (B.length + 2 + 1) (B.length + 3) = true := by rw [Nat.ble_eq]; omega
        simp only [envUnder, AV.under, e1, e2, e3, Bool.and_true]
    have ho : ∀ L, (seO B to tk l ++ L)[B.length + 2]? = some (.arr 3 (l.map mvP) false) := fun L => by
      refine get_old L ?_
      rw [List.getElem?_append_right (by rw [seS_len]; omega), seS_len, Nat.sub_self]; rfl
    have hx0 : (seO B to tk l ++ [.cells 54 (entC x)])[(seO B to tk l).length]? = some (.cells 54 (entC x)) := by rw [List.getElem?_append_right (Nat.le_refl _), Nat.sub_self]; rfl
    have ht0 : (seO B to tk l ++ [.cells 54 (entC x)])[B.length]? = some (.arr 1 (iP to) false) := by
      refine get_old _ (get_old _ ?_)
      have := seS_to B to tk []
      rwa [List.append_nil] at this
    refine filediff_Renames.n159_in ?_
    rw [filediff_Renames.b160_eq, condB_decide, if_pos (by omega)]
    refine opt_in (idx_ro tab54 (ent_get gx) rfl) ?_
    refine opt_in (v := .pv (entP x)) rfl ?_
    refine opt_in ent_var ?_
    refine opt_in (arr_idx (i := B.length) (c := to) (fz := false) ht0 ht hlt) ?_
    refine opt_in (arr_load (i := B.length) (c := to) (fz := false) ht0 ht gt) (isI_in ?_)
    have htr : -1 ≤ t - 1 ∧ t - 1 ≤ 8388608 := by
      rcases hin t (List.mem_of_getElem? gt) with h0 | ⟨t1, t2⟩ <;> omega
    rw [wrap_i64 (by omega) (by omega), condB_decide]
    refine ite_split (fun g => ?_) (fun g => ?_)
    · rcases hin t (List.mem_of_getElem? gt) with h0 | ⟨t1, t2⟩
      · omega
      obtain ⟨k, rfl⟩ : ∃ k : Nat, t = (k : Int) + 1 := ⟨(t - 1).toNat, by omega⟩
      have hk : k < come.length := by omega
      have gy : come[k]? = some come[k] := List.getElem?_eq_getElem hk
      generalize come[k] = y at gy
      have ek : (k : Int) + 1 - 1 = (k : Int) := by omega
      have e2 : mvF come x ((k : Int) + 1) = [⟨x.p, y.p, likeM x y⟩] := by
        unfold mvF
        rw [if_neg (by omega), show ((k : Int) + 1 - 1).toNat = k by omega, gy]
      rw [e2] at he
      rw [ek]
      refine opt_in (v := .ptr (seO B to tk l).length 0) rfl (opt_in (v := .pv (.str x.p)) (by rw [aLoad_cells hx0]; rfl) (isS_in ?_))
      refine opt_in (idx_ro tab54 (ent_get gy) rfl) ?_
      repeat ((with_reducible first | apply opt_in | apply wI | apply wT | apply wP | apply wS | apply wB); exact rfl)
      have hB : ∀ L : Store, seO B to tk l ++ L = B ++ ([SObj.arr 1 (iP to) false, SObj.arr 1 (boP tk) false] ++ [SObj.arr 3 (l.map mvP) false] ++ L) := fun L => by simp [List.append_assoc]
      rw [hB]
      refine like_at ok T gx gy _ ?_
      rw [← hB]
      refine opt_in (v := .pv (mvP ⟨x.p, y.p, likeM x y⟩)) rfl ?_
      refine opt2_in (v := .pv (.sl [mvP ⟨x.p, y.p, likeM x y⟩])) rfl ?_
      refine opt2_in (mv_append (ho _) (by omega) rfl rfl) ?_
      have es : (seO B to tk l ++ [SObj.cells 54 (entC x)]).set (B.length + 2) (.arr 3 ((l ++ [(⟨x.p, y.p, likeM x y⟩ : Mv)]).map mvP) false) = seO B to tk (l ++ [⟨x.p, y.p, likeM x y⟩]) ++ [.cells 54 (entC x)] := by
        rw [List.append_assoc, List.set_append_right _ _ (by rw [seS_len]; omega), seS_len, Nat.sub_self]
        simp [List.append_assoc]
      rw [es]
      exact step _ (by rw [List.length_append, List.length_singleton]; omega) (by rw [List.append_assoc]; exact he)
    · have h0 : t = 0 := by
        rcases hin t (List.mem_of_getElem? gt) with h0 | ⟨t1, t2⟩
        · exact h0
        · omega
      subst h0
      exact step l (by omega) he
theorem se_match (ok : EntOK gone come) (T : LikeOK B cs gone come) (hle : 1 ≤ least) (hle2 : least ≤ 100) : ∀ (f : Nat) (to : List Int) (tk : List Bool), zerosF to < f → to.length = gone.length → tk.length = come.length → InTo come.length to → P (prA (movF come gone (matchF gone come least f to tk))) →
    filediff_Renames.n106 (filediff_Renames.X w0 0) w0 0 (fun r _ => P r) (seS B to tk) (entsA gone) (entsA come) least (.avs 0 gone.length) (iArr B.length gone.length) (iArr (B.length + 1) come.length)
  | 0, to, tk, hz, _, _, _, _ => absurd hz (Nat.not_lt_zero _)
  | f + 1, to, tk, hz, ht, hk, hin, hP => by
    have hgl := ok.gl
    have hcl := ok.cl
    refine filediff_Renames.n106_in ?_
    rw [filediff_Renames.b107_eq]
    repeat ((with_reducible first | apply opt_in | apply wI | apply wT | apply wP | apply wS | apply wB); exact rfl)
    rw [List.length_map, wrap_i64 (by omega) (by omega)]
    refine se_out ok T ht hk gone.length 0 ⟨least - 1, -1, -1⟩ (Nat.zero_add _) (by show 0 ≤ least - 1; omega) ?_
    intro s' hs
    have hrel : RelB (least - 1) (pickF gone come to tk) s' := by
      rw [hs]
      exact outB_rel gone.length 0 (.inl ⟨by show (0 : Int) ≤ least - 1; omega, rfl⟩)
    clear hs
    unfold matchF at hP
    refine filediff_Renames.n146_in ?_
    rw [filediff_Renames.b146_eq, condB_decide]
    rcases hrel with ⟨hb, rfl⟩ | ⟨rfl, hb⟩
    · rw [if_pos (show (-1 : Int) < 0 by decide)]
      rw [if_pos (by omega)] at hP
      refine filediff_Renames.n153_in ?_
      rw [filediff_Renames.b153_eq]
      repeat ((with_reducible first | apply opt_in | apply wI | apply wT | apply wP | apply wS | apply wB); exact rfl)
      rw [List.length_map]
      have hlen := seS_len B to tk
      refine filediff_Renames.n159_weak (come' := entsA come) (like' := .avs 0 gone.length) (to' := iArr B.length gone.length) (out' := .arr (B.length + 2) 0 0 0) (t176' := entsA gone) (t177' := gone.length) (t178' := (0 : Nat)) (τ := seO B to tk []) ?_ (se_list ok T ht hin hP gone.length 0 [] (Nat.zero_add _) (Nat.zero_le _) rfl)
      rw [← hlen]
      exact EWeak.nil (t := 26) (es := 3) rfl rfl
    · rw [if_neg (by omega)] at hP
      obtain ⟨i, k, x, y, pk⟩ := pick_is (gone := gone) (come := come) (to := to) (tk := tk) (by omega)
      rw [pk.is] at hP ⊢
      have li := (List.getElem?_eq_some_iff.1 pk.hi).1
      have lk := (List.getElem?_eq_some_iff.1 pk.hk).1
      simp only [Int.toNat_natCast] at hP
      dsimp only
      rw [if_neg (by omega), wrap_i64 (by omega) (by omega)]
      have ht0 := seS_to B to tk []
      rw [List.append_nil] at ht0
      refine opt_in (arr_idx (i := B.length) (c := to) (fz := false) ht0 ht li) ?_
      refine opt_in (arr_store (i := B.length) (c := to) ht0 ht pk.free) ?_
      have e1 : (seS B to tk).set B.length (.arr 1 (iP (to.set i ((k : Int) + 1))) false) = seS B (to.set i ((k : Int) + 1)) tk := by
        rw [List.set_append_right _ _ (Nat.le_refl _), Nat.sub_self]; rfl
      rw [e1]
      have hk0 := seS_tk B (to.set i ((k : Int) + 1)) tk []
      rw [List.append_nil] at hk0
      refine opt_in (bo_idx (i := B.length + 1) (c := tk) (fz := false) hk0 hk lk) ?_
      refine opt_in (bo_store (i := B.length + 1) (c := tk) hk0 hk pk.tk) ?_
      have e2 : (seS B (to.set i ((k : Int) + 1)) tk).set (B.length + 1) (.arr 1 (boP (tk.set k true)) false) = seS B (to.set i ((k : Int) + 1)) (tk.set k true) := by
        rw [List.set_append_right _ _ (by omega), show B.length + 1 - B.length = 1 by omega]; rfl
      rw [e2]
      have hz' := zeros_set (t := (k : Int) + 1) pk.free (by omega)
      exact se_match ok T hle hle2 f (to.set i ((k : Int) + 1)) (tk.set k true) (by omega) (by rw [List.length_set]; exact ht) (by rw [List.length_set]; exact hk) (hin.set lk) hP
end
end Go.Sv
end
