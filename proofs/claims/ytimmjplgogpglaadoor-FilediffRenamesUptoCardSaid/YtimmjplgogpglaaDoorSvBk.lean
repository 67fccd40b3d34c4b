/- What is read is no greater than its bulk. Files that went and came elsewhere: both sides answer the same pairs. -/
import Derived.Test.YtimmjplgogpglaaDoorSvY
import Derived.Test.YtimmjplgogpglaaDoorRows
import Derived.Test.YtimmjplgogpglaaDoorFrI
set_option linter.unusedVariables false
set_option linter.unusedSimpArgs false
set_option maxRecDepth 100000
section
namespace Go.Sv
open Go Go.Proofs Go.Proofs.YtimmjplgogpglaaDoor
mutual
def pvB : PV → Nat
  | .str s => s.length + 1
  | .sl xs => pvBs xs + 1
  | .agg cs => pvBs cs
  | _ => 1
def pvBs : List PV → Nat
  | [] => 0
  | p :: r => pvB p + pvBs r
end
theorem pvBs_append : ∀ a b : List PV, pvBs (a ++ b) = pvBs a + pvBs b
  | [], b => by simp [pvBs]
  | p :: r, b => by simp [pvBs, pvBs_append r b, Nat.add_assoc]
theorem pvBs_cells (p : PV) : pvBs p.cells = pvB p := by cases p <;> simp [PV.cells, pvBs, pvB]
mutual
theorem pvB_le {H : Type} : ∀ d : DataW H, pvB (toPV d) ≤ Rows.uptoBulk d
  | .lit (.string l) => by simp [toPV, pvB, Rows.uptoBulk]
  | .slice elems sp => by have := pvBs_le elems; simp only [toPV, pvB, Rows.uptoBulk]; omega
  | .agg parts => by have := pvBc_le parts; simp only [toPV, pvB, Rows.uptoBulk]; omega
  | .lit (.int k n) => by simp [toPV, pvB, Rows.uptoBulk]
  | .lit (.bool b) => by simp [toPV, pvB, Rows.uptoBulk]
  | .nil => by simp [toPV, pvB, pvBs, Rows.uptoBulk]
  | .ptr d => by simp [toPV, pvB, pvBs, Rows.uptoBulk]
  | .iface _ d => by simp [toPV, pvB, pvBs, Rows.uptoBulk]
  | .map e => by simp [toPV, pvB, pvBs, Rows.uptoBulk]
  | .held _ => by simp [toPV, pvB, pvBs, Rows.uptoBulk]
  | .lit .nil => by simp [toPV, pvB, pvBs, Rows.uptoBulk]
  | .lit (.float _ _) => by simp [toPV, pvB, pvBs, Rows.uptoBulk]
theorem pvBs_le {H : Type} : ∀ l : List (DataW H), pvBs (toPVs l) ≤ Rows.uptoBulkAll l
  | [] => by simp [toPVs, pvBs]
  | d :: r => by have := pvB_le d; have := pvBs_le r; simp only [toPVs, pvBs, Rows.uptoBulkAll]; omega
theorem pvBc_le {H : Type} : ∀ l : List (DataW H), pvBs (toCells l) ≤ Rows.uptoBulkAll l
  | [] => by simp [toCells, pvBs]
  | d :: r => by have := pvB_le d; have := pvBc_le r; simp only [toCells, pvBs_append, pvBs_cells, Rows.uptoBulkAll]; omega
end
end Go.Sv
end
section
namespace Go.Sv
open Go Go.RowKit Go.Proofs
section
variable {w0 : Base} {P : AV → Prop} {gone come : List Ent} {least : Int}
abbrev bothA (gone come : List Ent) : AV := .pv (.sl [.sl (gone.map entP), .sl (come.map entP)])
theorem en_check {l : List Ent} (hl : ∀ e ∈ l, e.t.length ≤ 4194304) (hn : l.length ≤ 4194304) {c : Int} (next : filediff_Renames.n47 (filediff_Renames.X w0 0) w0 0 (fun r _ => P r) [] (entsA gone) (entsA come) least (bothA gone come) 2 c) : ∀ (f i : Nat), i + f = l.length →
    filediff_Renames.n28 (filediff_Renames.X w0 0) w0 0 (fun r _ => P r) [] (entsA gone) (entsA come) least (bothA gone come) 2 c (entsA l) l.length i
  | 0, i, hi => by
    refine filediff_Renames.n28_in ?_
    rw [filediff_Renames.b29_eq, condB_decide, if_neg (by omega)]
    exact next
  | f + 1, i, hi => by
    have hlt : i < l.length := by omega
    have ge : l[i]? = some l[i] := List.getElem?_eq_getElem hlt
    generalize l[i] = e at ge
    have hle := hl e (List.mem_of_getElem? ge)
    have h41 : filediff_Renames.n41 (filediff_Renames.X w0 0) w0 0 (fun r _ => P r) [.cells 54 (entC e)] (entsA gone) (entsA come) least (bothA gone come) 2 c (entsA l) l.length i false := by
      refine filediff_Renames.n41_in ?_
      rw [filediff_Renames.b41_eq, condB_false', wrap_next hlt (by omega)]
      exact filediff_Renames.n28_weak (EWeak.drop (τ := []) glob0 (Nat.zero_le _) rfl rfl) (en_check hl hn next f (i + 1) (by omega))
    refine filediff_Renames.n28_in ?_
    rw [filediff_Renames.b29_eq, condB_decide, if_pos (by omega)]
    refine opt_in (idx_ro tab54 (ent_get ge) rfl) ?_
    refine opt_in (v := .pv (entP e)) rfl ?_
    refine opt_in (ent_var (σ := [])) ?_
    repeat ((with_reducible first | apply opt_in | apply wI | apply wT | apply wP | apply wS | apply wB); exact rfl)
    rw [condB_ibeq]
    refine ite_split (fun g => ?_) (fun g => h41)
    repeat ((with_reducible first | apply opt_in | apply wI | apply wT | apply wP | apply wS | apply wB); exact rfl)
    rw [show decide ((e.t.length : Int) > 4194304) = false by simp; omega]
    exact h41
theorem like_ok (ok : EntOK gone come) : LikeOK (lkS gone come gone.length) (lkC gone.length come.length gone.length) gone come := by
  have hl := lkS_len (come := come) (Nat.le_refl gone.length)
  refine ⟨rfl, fun i x gx => ?_, ?_⟩
  · have li := (List.getElem?_eq_some_iff.1 gx).1
    refine ⟨2 * i + 2, by rw [lkC_get li, if_pos li], ?_⟩
    show (lkT come (gone.take gone.length))[2 * i + 1]? = _
    rw [List.take_length]
    exact lkT_row gx
  · rw [hl]
    show (AV.unders _ (lkC gone.length come.length gone.length) && storeUnder _ (lkT come (gone.take gone.length))) = true
    rw [lkC_under (by omega), lkT_under]; rfl
theorem Renames_spec {R : AV → Store → Prop} {σ : Store} (L : Laid w0.w) (ok : EntOK gone come) (h1 : 1 ≤ least → least ≤ 100 → R (prA (pairsF gone come least)) σ) (h2 : least < 1 ∨ 100 < least → R (.tup [.nilsl, .pv (.iface 42 (.int .i64 1))]) σ) : SCalls (cx w0) filediff_Renames.id [entsA gone, entsA come, .pv (.int .i64 least)] σ R := by
  have hgl := ok.gl
  have hcl := ok.cl
  by_cases hl : 1 ≤ least ∧ least ≤ 100
  · refine SCalls.alone L rfl (fun w1 L1 => ?_) rfl (h1 hl.1 hl.2)
    refine filediff_Renames.calls ?_
    rw [filediff_Renames.b0_eq, condB_decide, if_neg (by omega), show decide (least > 100) = false by simp; omega]
    refine filediff_Renames.n5_in ?_
    rw [filediff_Renames.b5_eq, condB_false']
    refine opt2_in (v := bothA gone come) (s := []) rfl ?_
    repeat ((with_reducible first | apply opt_in | apply wI | apply wT | apply wP | apply wS | apply wB); exact rfl)
    have h48 : filediff_Renames.n48 (filediff_Renames.X w1 0) w1 0 (fun r _ => r = prA (pairsF gone come least)) [] (entsA gone) (entsA come) least := by
      refine filediff_Renames.n48_in ?_
      rw [filediff_Renames.b48_eq]
      repeat ((with_reducible first | apply opt_in | apply wI | apply wT | apply wP | apply wS | apply wB); exact rfl)
      rw [List.length_map]
      refine opt2_in (v := .avs 0 gone.length) (s := lkS gone come 0) ?_ ?_
      · show (if 0 ≤ (gone.length : Int) ∧ (gone.length : Int) = (gone.length : Int) ∧ roomy (gone.length : Int).toNat 24 ∧ (1 : Nat) = 1 then some (AV.avs 0 (gone.length : Int).toNat, [SObj.cells 43 (List.replicate (gone.length : Int).toNat .nilsl)]) else none) = _
        rw [if_pos ⟨by omega, rfl, by rw [Int.toNat_natCast]; exact ⟨by omega, by omega⟩, rfl⟩, Int.toNat_natCast]
        unfold lkS
        rw [lkC_first]
        rfl
      repeat ((with_reducible first | apply opt_in | apply wI | apply wT | apply wP | apply wS | apply wB); exact rfl)
      rw [List.length_map]
      refine like_loop L1 ok ?_ gone.length 0 (Nat.zero_add _)
      refine filediff_Renames.n100_in ?_
      rw [filediff_Renames.b100_eq]
      repeat ((with_reducible first | apply opt_in | apply wI | apply wT | apply wP | apply wS | apply wB); exact rfl)
      rw [List.length_map]
      refine opt2_in (mk_row (by omega)) ?_
      repeat ((with_reducible first | apply opt_in | apply wI | apply wT | apply wP | apply wS | apply wB); exact rfl)
      rw [List.length_map]
      refine opt2_in (mk_brow (by omega)) ?_
      have key := se_match (w0 := w1) (P := fun r => r = prA (pairsF gone come least)) ok (like_ok ok) hl.1 hl.2 (gone.length + 1) (List.replicate gone.length 0) (List.replicate come.length false) (by have := zeros_le (List.replicate gone.length 0); rw [List.length_replicate] at this; omega) List.length_replicate List.length_replicate (fun t ht => .inl (List.eq_of_mem_replicate ht)) rfl
      have e1 : (lkS gone come gone.length ++ [SObj.arr 1 (iP (List.replicate gone.length 0)) false]).length = (lkS gone come gone.length).length + 1 := by rw [List.length_append]; rfl
      rw [e1, List.append_assoc]
      exact key
    rw [show ((List.length [PV.sl (gone.map entP), PV.sl (come.map entP)] : Nat) : Int) = 2 from rfl]
    refine filediff_Renames.n14_in ?_
    rw [filediff_Renames.b15_eq, condB_decide, if_pos (by decide)]
    refine opt_in (v := .ro (.sl (gone.map entP)) 0) rfl ?_
    repeat ((with_reducible first | apply opt_in | apply wI | apply wT | apply wP | apply wS | apply wB); exact rfl)
    rw [List.length_map]
    refine en_check ok.hg ok.gl ?_ gone.length 0 (Nat.zero_add _)
    refine filediff_Renames.n47_in ?_
    rw [filediff_Renames.b47_eq]
    refine filediff_Renames.n14_in ?_
    rw [filediff_Renames.b15_eq, condB_decide, if_pos (by decide)]
    refine opt_in (v := .ro (.sl (come.map entP)) 0) rfl ?_
    repeat ((with_reducible first | apply opt_in | apply wI | apply wT | apply wP | apply wS | apply wB); exact rfl)
    rw [List.length_map]
    refine en_check ok.hc ok.cl ?_ come.length 0 (Nat.zero_add _)
    refine filediff_Renames.n47_in ?_
    rw [filediff_Renames.b47_eq]
    refine filediff_Renames.n14_in ?_
    rw [filediff_Renames.b15_eq, condB_decide, if_neg (by decide)]
    exact h48
  · have h := h2 (by omega)
    refine SCalls.alone L rfl (fun w1 L1 => ?_) rfl h
    refine filediff_Renames.calls ?_
    have h5 : filediff_Renames.n5 (filediff_Renames.X w1 0) w1 0 (fun r _ => r = .tup [.nilsl, .pv (.iface 42 (.int .i64 1))]) [] (entsA gone) (entsA come) least true := by
      refine filediff_Renames.n5_in ?_
      rw [filediff_Renames.b5_eq, condB_true']
      repeat ((with_reducible first | apply opt_in | apply wI | apply wT | apply wP | apply wS | apply wB); exact rfl)
      exact fin_keep (Nat.zero_le _) rfl
    rw [filediff_Renames.b0_eq, condB_decide]
    refine ite_split (fun g => h5) (fun g => ?_)
    rw [show decide (least > 100) = true by simp; omega]
    exact h5
theorem mv_same (v : Mv) {k : AV → Prop} (hk : k (.pv (.bool false))) : aBinK tabS 39 false .neq (.pv (mvP v)) (.pv (mvP v)) k := by
  have e : aEqT tabS ti39 false (.pv (mvP v)) (.pv (mvP v)) = some true := by
    have h : aEqT tabS ti39 false (.pv (mvP v)) (.pv (mvP v)) = some ((v.a == v.a) && ((v.b == v.b) && ((v.n == v.n) && true))) := rfl
    rw [h]; simp
  show opt (tabS 39) fun ti => opt (aEqT tabS ti false (.pv (mvP v)) (.pv (mvP v))) fun b => k (.pv (.bool !b))
  exact opt_in rfl (opt_in e hk)
theorem mv_loop {R : AV → Store → Prop} {σ : Store} (L : Laid w0.w) {l : List Mv} (hl : l.length ≤ 8388608) (hR : R (.pv (.bool true)) σ) : ∀ (f i : Nat), i + f = l.length →
    selvagelaw25_FilediffRenames.n18 (selvagelaw25_FilediffRenames.X w0 σ.length) w0 σ.length R σ (.pv (.sl (l.map mvP))) (.pv (.sl (l.map mvP))) i
  | 0, i, hi => by
    refine selvagelaw25_FilediffRenames.n18_in ?_
    rw [selvagelaw25_FilediffRenames.b19_eq]
    repeat ((with_reducible first | apply opt_in | apply wI | apply wT | apply wP | apply wS | apply wB); exact rfl)
    rw [List.length_map, condB_decide, if_neg (by omega)]
    refine selvagelaw25_FilediffRenames.n35_in ?_
    rw [selvagelaw25_FilediffRenames.b35_eq]
    exact moved_spec L (isB_in (fin_same hR))
  | f + 1, i, hi => by
    have hlt : i < l.length := by omega
    have ge : l[i]? = some l[i] := List.getElem?_eq_getElem hlt
    generalize l[i] = v at ge
    have gm : (l.map mvP)[i]? = some (mvP v) := by rw [List.getElem?_map, ge]; rfl
    refine selvagelaw25_FilediffRenames.n18_in ?_
    rw [selvagelaw25_FilediffRenames.b19_eq]
    repeat ((with_reducible first | apply opt_in | apply wI | apply wT | apply wP | apply wS | apply wB); exact rfl)
    rw [List.length_map, condB_decide, if_pos (by omega)]
    refine opt_in (idx_ro tab40 gm rfl) ?_
    refine opt_in (v := .pv (mvP v)) rfl ?_
    refine opt_in (idx_ro tab39 gm rfl) ?_
    refine opt_in (v := .pv (mvP v)) rfl ?_
    have ih := mv_loop L hl hR f (i + 1) (by omega)
    refine mv_same v (isB_in ?_)
    rw [condB_false', wrap_next hlt (by omega)]
    exact ih
theorem renames_law {R : AV → Store → Prop} {σ : Store} (L : Laid w0.w) (ok : EntOK gone come) (hR : R (.pv (.bool true)) σ) : SCalls (cx w0) selvagelaw25_FilediffRenames.id [entsA gone, entsA come, .pv (.int .i64 least)] σ R := by
  have hgl := ok.gl
  refine selvagelaw25_FilediffRenames.calls ?_
  rw [selvagelaw25_FilediffRenames.b0_eq]
  refine Renames_spec L ok (fun g1 g2 => ?_) (fun g => ?_)
  · unfold prA
    repeat ((with_reducible first | apply opt_in | apply wI | apply wT | apply wP | apply wS | apply wB); exact rfl)
    refine rRenames_spec L ok (fun _ _ => ?_) (fun h => absurd h (by omega))
    unfold rnA
    repeat ((with_reducible first | apply opt_in | apply wI | apply wT | apply wP | apply wS | apply wB); exact rfl)
    rw [List.length_map, condB_ibne, if_pos rfl]
    refine fnum_nil L ?_
    repeat ((with_reducible first | apply opt_in | apply wI | apply wT | apply wP | apply wS | apply wB); exact rfl)
    rw [show ((0 : Int) != 0) = false from rfl]
    refine selvagelaw25_FilediffRenames.n9_in ?_
    rw [selvagelaw25_FilediffRenames.b9_eq, condB_false']
    have hlen := movF_len come gone (matchF gone come least (gone.length + 1) (List.replicate gone.length 0) (List.replicate come.length false))
    exact mv_loop L (l := pairsF gone come least) (by unfold pairsF; omega) hR (pairsF gone come least).length 0 (Nat.zero_add _)
  · repeat ((with_reducible first | apply opt_in | apply wI | apply wT | apply wP | apply wS | apply wB); exact rfl)
    refine rRenames_spec L ok (fun h1 h2 => absurd g (by omega)) (fun _ => ?_)
    repeat ((with_reducible first | apply opt_in | apply wI | apply wT | apply wP | apply wS | apply wB); exact rfl)
    rw [condB_ibne, if_pos rfl]
    refine fnum_err L ?_
    repeat ((with_reducible first | apply opt_in | apply wI | apply wT | apply wP | apply wS | apply wB); exact rfl)
    rw [show ((1 : Int) != 1) = false from rfl]
    refine selvagelaw25_FilediffRenames.n9_in ?_
    rw [selvagelaw25_FilediffRenames.b9_eq, condB_false']
    refine selvagelaw25_FilediffRenames.n18_in ?_
    rw [selvagelaw25_FilediffRenames.b19_eq]
    repeat ((with_reducible first | apply opt_in | apply wI | apply wT | apply wP | apply wS | apply wB); exact rfl)
    rw [condB_decide, if_neg (by decide)]
    refine selvagelaw25_FilediffRenames.n35_in ?_
    rw [selvagelaw25_FilediffRenames.b35_eq]
    exact moved_spec L (isB_in (fin_same hR))
end
section
open Go Go.Proofs Go.Proofs.YtimmjplgogpglaaDoor
theorem ent_list : ∀ xs : List PV, (∀ x ∈ xs, hasT tabS 11 54 x) → ∃ l : List Ent, xs = l.map entP
  | [], _ => ⟨[], rfl⟩
  | x :: r, h => by
    obtain ⟨l, rfl⟩ := ent_list r fun y hy => h y (List.mem_cons_of_mem _ hy)
    obtain ⟨qs, rfl, g⟩ := hasT_struct tab54 ti54_td (h x (by simp))
    clear h
    obtain ⟨_, qs, rfl, h1, h⟩ := fields_cons g
    obtain ⟨_, qs, rfl, h2, h⟩ := fields_cons h
    obtain ⟨_, qs, rfl, h3, h⟩ := fields_cons h
    obtain rfl := fields_nil h
    obtain ⟨s, rfl, _⟩ := hasT_str tab9 ti9_td h1
    obtain ⟨a, rfl, _⟩ := hasT_int tab3 ti3_td h2
    obtain ⟨d, rfl, _⟩ := hasT_str tab9 ti9_td h3
    exact ⟨⟨s, a, d⟩ :: l, rfl⟩
theorem ents_bulk : ∀ l : List Ent, l.length ≤ pvBs (l.map entP) ∧ ∀ e ∈ l, e.t.length ≤ pvBs (l.map entP)
  | [] => ⟨Nat.zero_le _, nofun⟩
  | c :: r => by
    have ⟨h1, h2⟩ := ents_bulk r
    simp only [List.map_cons, pvBs, pvB, List.length_cons]
    refine ⟨by omega, fun e he => ?_⟩
    rcases List.mem_cons.1 he with rfl | he
    · omega
    · have := h2 e he; omega
theorem FilediffRenames_spec {w0 : Base} (L : Laid w0.w) {H : Type} {d0 d1 d2 : DataW H} {ds : List (DataW H)} (hT : hasT tabS 12 31 (toPV d0)) (hU : hasT tabS 12 31 (toPV d1)) (hV : hasT tabS 12 3 (toPV d2)) (hk : Rows.uptoSmall H (d0 :: d1 :: d2 :: ds) = true) : SCalls (cx w0) selvagelaw25_FilediffRenames.id [.pv (toPV d0), .pv (toPV d1), .pv (toPV d2)] [] fun r _ => r = .pv (.bool true) := by
  obtain ⟨xs, e, hx⟩ := hasT_slice tab31 ti31_td hT
  obtain ⟨ys, e2, hy⟩ := hasT_slice tab31 ti31_td hU
  obtain ⟨w, e', _⟩ := hasT_int tab3 ti3_td hV
  obtain ⟨gone, rfl⟩ := ent_list xs hx
  obtain ⟨come, rfl⟩ := ent_list ys hy
  have hb : Rows.uptoBulkAll (d0 :: d1 :: d2 :: ds) ≤ 1048576 := of_decide_eq_true hk
  have h0 := pvB_le d0
  have h1 := pvB_le d1
  simp only [Rows.uptoBulkAll] at hb
  rw [e] at h0
  rw [e2] at h1
  simp only [pvB] at h0 h1
  have ⟨g1, g2⟩ := ents_bulk gone
  have ⟨g3, g4⟩ := ents_bulk come
  rw [e, e2, e']
  exact renames_law L ⟨fun x hx => by have := g2 x hx; omega, fun x hx => by have := g4 x hx; omega, by omega, by omega⟩ rfl
end
end Go.Sv
end
