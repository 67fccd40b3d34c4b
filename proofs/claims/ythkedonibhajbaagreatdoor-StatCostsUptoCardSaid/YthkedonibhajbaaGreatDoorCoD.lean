/- The document's hunk of a group of changes. -/
import Derived.Test.YthkedonibhajbaaGreatDoorCoC
set_option linter.unusedVariables false
set_option linter.unusedSimpArgs false
set_option maxRecDepth 100000
namespace Go.Sv
open Go Go.RowKit Go.Proofs
def rowsQ (A B : List (List UInt8)) : List NC → Nat → List Row
  | [], _ => []
  | c :: r, x => kindR 1 (seg A x c.a) ++ (kindR 2 (seg A c.a (c.a + c.n)) ++ (kindR 3 (seg B c.b (c.b + c.m)) ++ rowsQ A B r (c.a + c.n)))
theorem rowsN_split (A B : List (List UInt8)) (z : Nat) : ∀ (g : List NC) (x : Nat), rowsN A B g x z = rowsQ A B g x ++ kindR 1 (seg A (lastEnd g x) z)
  | [], x => rfl
  | c :: r, x => by
    simp only [rowsN, rowsQ, lastEnd, rowsN_split A B z r, List.append_assoc]
theorem map_seg (A : List (List UInt8)) (x y : Nat) : ((A.map PV.str).take y).drop x = (seg A x y).map PV.str := by
  unfold seg
  rw [List.map_drop, List.map_take]
theorem lastEnd_get : ∀ (g : List NC) (x : Nat) (d : NC), g[g.length - 1]? = some d → lastEnd g x = d.a + d.n
  | [], x, d, h => by simp at h
  | [c], x, d, h => by simp at h; subst h; rfl
  | c :: e :: r, x, d, h => by
    have := lastEnd_get (e :: r) (c.a + c.n) d (by simpa using h)
    exact this
section
variable {w0 : Base} {σ : Store} {R : AV → Store → Prop}
theorem slice_str {σ : Store} {A : List (List UInt8)} {x y : Nat} (hxy : x ≤ y) (hy : y ≤ A.length) : aSlice σ tabS ti23.td (.pv (strsP A)) (some (.pv (.int .i64 (x : Nat)))) (some (.pv (.int .i64 (y : Nat)))) = some (.pv (strsP (seg A x y))) := by
  have hs : sized ti9.size (A.map PV.str) = true := by
    simp only [sized, List.all_eq_true]
    intro p hp
    obtain ⟨t, _, rfl⟩ := List.mem_map.1 hp
    rfl
  unfold aSlice
  simp only [lenA, bndA, asI, ti23_td, tab9, List.length_map]
  rw [if_pos ⟨by omega, by omega, by omega⟩, if_pos hs, Int.toNat_natCast, Int.toNat_natCast, map_seg]
abbrev oneS (d : NC) (acc : List Row) : Store := [.cells 51 [.pv (.int .i64 0), .pv (.int .i64 0), .pv (.int .i64 0), .pv (.int .i64 0), .pv (.str []), .nilsl], .cells 48 [.pv (.int .i64 (d.a : Nat)), .pv (.int .i64 (d.n : Nat)), .pv (.int .i64 (d.b : Nat)), .pv (.int .i64 (d.m : Nat))], .arr 2 (acc.map rowP) false]
abbrev oneA (acc : List Row) : AV := .arr 2 acc.length 0 acc.length
theorem one_loop (L : Laid w0.w) (A B : List (List UInt8)) (hAB : A.length + B.length ≤ 2097152) (d : NC) (xs : List PV) (hx : xs.length ≤ 4294967296) (from_ to_ : Int) {R : AV → Store → Prop} (z : Nat) : ∀ (r : List NC) (i x y : Nat) (acc : List Row), xs.drop i = r.map ncP → hkc A B r x y z → acc.length + (rowsN A B r x z).length ≤ 4294967296 →
    selvageref10_one.n37 (selvageref10_one.X w0 0) w0 0 R (oneS d (acc ++ rowsQ A B r x)) (.pv (.sl xs)) (.pv (strsP A)) (.ptr 0 0) from_ to_ (oneA (acc ++ rowsQ A B r x)) ((lastEnd r x : Nat) : Int) →
    selvageref10_one.n18 (selvageref10_one.X w0 0) w0 0 R (oneS d acc) (.pv (.sl xs)) (.pv (strsP A)) (.pv (strsP B)) (.ptr 0 0) from_ to_ (oneA acc) x i := by
  intro r
  induction r with
  | nil =>
    intro i x y acc h hk hl hR
    have hd := drop_end h
    refine selvageref10_one.n18_in ?_
    rw [selvageref10_one.b19_eq]
    repeat (first | ((with_reducible show opt _ _); refine opt_in rfl ?_) | ((with_reducible show isI _ _ _); refine isI_in ?_) | ((with_reducible show isTup _ _); refine isTup_in ?_) | ((with_reducible show isS _ _); refine isS_in ?_) | ((with_reducible show isB _ _); refine isB_in ?_))
    rw [condB_decide, if_neg (by omega)]
    simp only [rowsQ, List.append_nil, lastEnd] at hR
    exact hR
  | cons c r ih =>
    intro i x y acc h hk hl hR
    obtain ⟨h1, h2, hd⟩ := drop_facts h
    obtain ⟨k1, k2, k3, k4, k5, k6, k7, k8⟩ := hk
    simp only [rowsN, List.length_append] at hl
    have e1 : (kindR 1 (seg A x c.a)).length = (seg A x c.a).length := List.length_map _
    have e2 : (kindR 2 (seg A c.a (c.a + c.n))).length = (seg A c.a (c.a + c.n)).length := List.length_map _
    have e3 : (kindR 3 (seg B c.b (c.b + c.m))).length = (seg B c.b (c.b + c.m)).length := List.length_map _
    refine selvageref10_one.n18_in ?_
    rw [selvageref10_one.b19_eq]
    repeat (first | ((with_reducible show opt _ _); refine opt_in rfl ?_) | ((with_reducible show isI _ _ _); refine isI_in ?_) | ((with_reducible show isTup _ _); refine isTup_in ?_) | ((with_reducible show isS _ _); refine isS_in ?_) | ((with_reducible show isB _ _); refine isB_in ?_))
    rw [condB_decide, if_pos (by omega)]
    refine opt_in (idx_ro tab48 h1 rfl) ?_
    repeat (first | ((with_reducible show opt _ _); refine opt_in rfl ?_) | ((with_reducible show isI _ _ _); refine isI_in ?_) | ((with_reducible show isTup _ _); refine isTup_in ?_) | ((with_reducible show isS _ _); refine isS_in ?_) | ((with_reducible show isB _ _); refine isB_in ?_))
    refine opt_in (slice_str k1 (by omega)) ?_
    refine put_spec (id := 2) (rows := acc) rfl (by omega) ?_
    repeat (first | ((with_reducible show opt _ _); refine opt_in rfl ?_) | ((with_reducible show isI _ _ _); refine isI_in ?_) | ((with_reducible show isTup _ _); refine isTup_in ?_) | ((with_reducible show isS _ _); refine isS_in ?_) | ((with_reducible show isB _ _); refine isB_in ?_))
    rw [wrap_i64 (n := (c.a : Int) + (c.n : Nat)) (by omega) (by omega), show (c.a : Int) + (c.n : Nat) = ((c.a + c.n : Nat) : Int) by push_cast; rfl]
    refine opt_in (slice_str (by omega) k6) ?_
    refine put_spec (id := 2) (rows := acc ++ kindR 1 (seg A x c.a)) rfl (by rw [List.length_append]; omega) ?_
    repeat (first | ((with_reducible show opt _ _); refine opt_in rfl ?_) | ((with_reducible show isI _ _ _); refine isI_in ?_) | ((with_reducible show isTup _ _); refine isTup_in ?_) | ((with_reducible show isS _ _); refine isS_in ?_) | ((with_reducible show isB _ _); refine isB_in ?_))
    rw [wrap_i64 (n := (c.b : Int) + (c.m : Nat)) (by omega) (by omega), show (c.b : Int) + (c.m : Nat) = ((c.b + c.m : Nat) : Int) by push_cast; rfl]
    refine opt_in (slice_str (by omega) k7) ?_
    refine put_spec (id := 2) (rows := acc ++ kindR 1 (seg A x c.a) ++ kindR 2 (seg A c.a (c.a + c.n))) rfl (by rw [List.length_append, List.length_append]; omega) ?_
    repeat (first | ((with_reducible show opt _ _); refine opt_in rfl ?_) | ((with_reducible show isI _ _ _); refine isI_in ?_) | ((with_reducible show isTup _ _); refine isTup_in ?_) | ((with_reducible show isS _ _); refine isS_in ?_) | ((with_reducible show isB _ _); refine isB_in ?_))
    rw [wrap_next hd (by omega), wrap_i64 (n := (c.a : Int) + (c.n : Nat)) (by omega) (by omega), show (c.a : Int) + (c.n : Nat) = ((c.a + c.n : Nat) : Int) by push_cast; rfl]
    have e : acc ++ rowsQ A B (c :: r) x = (acc ++ kindR 1 (seg A x c.a) ++ kindR 2 (seg A c.a (c.a + c.n)) ++ kindR 3 (seg B c.b (c.b + c.m))) ++ rowsQ A B r (c.a + c.n) := by
      simp only [rowsQ, List.append_assoc]
    rw [e] at hR
    exact selvageref10_one.n18_weak (EWeak.drop (τ := oneS d (acc ++ kindR 1 (seg A x c.a) ++ kindR 2 (seg A c.a (c.a + c.n)) ++ kindR 3 (seg B c.b (c.b + c.m)))) (L := [.cells 48 [.pv (.int .i64 (c.a : Nat)), .pv (.int .i64 (c.n : Nat)), .pv (.int .i64 (c.b : Nat)), .pv (.int .i64 (c.m : Nat))]]) glob0 (Nat.zero_le _) rfl rfl)
      (ih (i + 1) (c.a + c.n) (c.b + c.m) _ h2 k8 (by simp only [List.length_append]; omega) hR)
theorem sealVs_six {k : Nat} {S : Store} {a b c d e : PV} {X r : AV} (h : sealV k S X = some r) : sealVs k S [.pv a, .pv b, .pv c, .pv d, .pv e, X] = some [.pv a, .pv b, .pv c, .pv d, .pv e, r] := by
  have hp : ∀ p, sealV k S (.pv p) = some (.pv p) := fun p => rfl
  simp only [sealVs, hp, h]
theorem hunk_seal (v1 v3 v2 v4 : Int) (rows : List Row) (S : Store) (hS : S[2]? = some (.arr 2 (rows.map rowP) false)) : sealR 0 S (.agg [.pv (.int .i64 v1), .pv (.int .i64 v3), .pv (.int .i64 v2), .pv (.int .i64 v4), .pv (.str []), oneA rows]) = some (.pv (hnkP ⟨v1, v3, v2, v4, [], rows⟩)) := by
  have e : sealV 0 S (oneA rows) = some (.pv (rowsP rows)) := by
    show (match S[2]? with
      | some (.arr _ xs _) => if xs.length = rows.length ∧ 0 + rows.length ≤ rows.length then some (AV.pv (.sl ((xs.drop 0).take rows.length))) else none
      | _ => none) = _
    rw [hS]
    show (if (rows.map rowP).length = rows.length ∧ 0 + rows.length ≤ rows.length then some (AV.pv (.sl (((rows.map rowP).drop 0).take rows.length))) else none) = _
    rw [if_pos ⟨List.length_map _, by omega⟩, List.drop_zero, List.take_of_length_le (by rw [List.length_map]; exact Nat.le_refl _)]
  show (sealVs 0 S [.pv (.int .i64 v1), .pv (.int .i64 v3), .pv (.int .i64 v2), .pv (.int .i64 v4), .pv (.str []), oneA rows]).map mkAgg = _
  rw [sealVs_six e]
  rfl
/-- Behind the last change: the lines behind it, the counts, the hunk. -/
theorem one_end (L : Laid w0.w) {A : List (List UInt8)} (d c : NC) (xs : List PV) (h0 : xs[0]? = some (ncP c)) (x y z e : Nat) (acc rows : List Row) (hez : e ≤ z) (hz : z ≤ A.length) (hrows : acc ++ kindR 1 (seg A e z) = rows) (hl : rows.length ≤ 4294967296) (hx : x ≤ c.a) (hca : c.a ≤ 4294967296) (hcb : c.b ≤ 4294967296) (hy : y + (c.a - x) = c.b) :
    selvageref10_one.n37 (selvageref10_one.X w0 0) w0 0 (fun r' _ => r' = .pv (hnkP ⟨stated x (cntF isOld rows 0), cntF isOld rows 0, stated y (cntF isNew rows 0), cntF isNew rows 0, [], rows⟩)) (oneS d acc) (.pv (.sl xs)) (.pv (strsP A)) (.ptr 0 0) (x : Nat) (z : Nat) (oneA acc) (e : Nat) := by
  have idx0 : ∀ σ, aIndexAddr σ tabS ti22.td (.pv (.sl xs)) 0 = some (.ro (ncP c) 0) := fun σ => idx_ro (k := 0) tab48 h0 rfl
  have hlen : acc.length + (seg A e z).length ≤ 4294967296 := by
    have : (kindR 1 (seg A e z)).length = (seg A e z).length := List.length_map _
    rw [← hrows, List.length_append] at hl
    omega
  refine selvageref10_one.n37_in ?_
  rw [selvageref10_one.b37_eq]
  refine opt_in (slice_str hez hz) ?_
  refine put_spec (id := 2) (rows := acc) rfl hlen ?_
  rw [hrows]
  refine countsA_spec (id := 2) (l := rows) L rfl (by omega) ?_
  refine isTup_in (opt_in rfl (isI_in (isTup_in (opt_in rfl (isI_in ?_)))))
  refine opt_in (idx0 _) ?_
  refine opt_in (v := .ro (ncP c) (0 + 2)) rfl (opt_in (v := .pv (.int .i64 (c.b : Nat))) rfl (isI_in ?_))
  refine opt_in (idx0 _) ?_
  refine opt_in (v := .ro (ncP c) (0 + 0)) rfl (opt_in (v := .pv (.int .i64 (c.a : Nat))) rfl (isI_in ?_))
  refine stated_spec (by omega) (isI_in ?_)
  rw [wrap_i64 (n := (c.a : Int) - (x : Nat)) (by omega) (by omega), wrap_i64 (n := (c.b : Int) - ((c.a : Int) - (x : Nat))) (by omega) (by omega), show (c.b : Int) - ((c.a : Int) - (x : Nat)) = ((y : Nat) : Int) by omega]
  refine stated_spec (by omega) (isI_in ?_)
  generalize stated x (cntF isOld rows 0) = v1
  generalize stated y (cntF isNew rows 0) = v2
  generalize cntF isOld rows 0 = v3
  generalize cntF isNew rows 0 = v4
  refine opt_in (v := .agg [.pv (.int .i64 v1), .pv (.int .i64 v3), .pv (.int .i64 v2), .pv (.int .i64 v4), .pv (.str []), oneA rows]) rfl ?_
  refine opt_in (v := [.cells 51 [.pv (.int .i64 v1), .pv (.int .i64 v3), .pv (.int .i64 v2), .pv (.int .i64 v4), .pv (.str []), oneA rows], .cells 48 [.pv (.int .i64 (d.a : Nat)), .pv (.int .i64 (d.n : Nat)), .pv (.int .i64 (d.b : Nat)), .pv (.int .i64 (d.m : Nat))], .arr 2 (rows.map rowP) false]) rfl ?_
  refine opt_in (v := .agg [.pv (.int .i64 v1), .pv (.int .i64 v3), .pv (.int .i64 v2), .pv (.int .i64 v4), .pv (.str []), oneA rows]) rfl ?_
  refine fin_seal (σ := []) glob0 rfl (r' := .pv (hnkP ⟨v1, v3, v2, v4, [], rows⟩)) ?_ rfl
  exact hunk_seal v1 v3 v2 v4 rows _ rfl
theorem one_spec (L : Laid w0.w) {A B : List (List UInt8)} (hAB : A.length + B.length ≤ 2097152) {ctx : Nat} (hctx : ctx ≤ 2147483647) {c : NC} {r : List NC} (hr : r.length ≤ 8388608) (hk : hkc A B (c :: r) (c.a - ctx) (c.b - (c.a - (c.a - ctx))) (lastEnd (c :: r) 0 + min ctx (A.length - lastEnd (c :: r) 0))) (hcb : c.a - (c.a - ctx) ≤ c.b)
    (hR : R (.pv (hnkP (oneN A B ctx (c :: r)))) σ) : SCalls (cx w0) selvageref10_one.id [.pv (.sl ((c :: r).map ncP)), .pv (strsP A), .pv (strsP B), .pv (.int .i64 (ctx : Nat))] σ R := by
  refine SCalls.alone L rfl (fun w1 L1 => ?_) rfl hR
  clear hR
  obtain ⟨d, hd⟩ : ∃ d, (c :: r)[(c :: r).length - 1]? = some d := ⟨_, List.getElem?_eq_getElem (by simp)⟩
  have hend := lastEnd_get (c :: r) 0 d hd
  obtain ⟨l1, l2⟩ := rows_len _ _ _ _ hk
  have hz : lastEnd (c :: r) 0 ≤ A.length := by
    have gen : ∀ (q : List NC) (x y z : Nat), hkc A B q x y z → lastEnd q x ≤ A.length := by
      intro q
      induction q with
      | nil =>
        intro x y z h
        obtain ⟨h1, h2, _⟩ := h
        show x ≤ _; omega
      | cons b q ih =>
        intro x y z h
        obtain ⟨h1, h2, h3, h4, h5, h6, h7, h8⟩ := h
        exact ih _ _ _ h8
    have h9 := gen (c :: r) _ _ _ hk
    exact h9
  have hk1 := hk.1
  have hk2 : c.a + c.n ≤ A.length ∧ c.b + c.m ≤ B.length := ⟨hk.2.2.2.2.2.1, hk.2.2.2.2.2.2.1⟩
  have hdm : ((c :: r).map ncP)[(c :: r).length - 1]? = some (ncP d) := by rw [List.getElem?_map, hd]; rfl
  have hlm : ((c :: r).map ncP).length = r.length + 1 := by simp
  have h0 : ((c :: r).map ncP)[0]? = some (ncP c) := rfl
  have idx0 : ∀ σ, aIndexAddr σ tabS ti22.td (.pv (.sl ((c :: r).map ncP))) 0 = some (.ro (ncP c) 0) := fun σ => idx_ro (k := 0) tab48 h0 rfl
  have hdle : d.a + d.n ≤ A.length := by omega
  refine selvageref10_one.calls ?_
  rw [selvageref10_one.b0_eq]
  repeat (first | ((with_reducible show opt _ _); refine opt_in rfl ?_) | ((with_reducible show isI _ _ _); refine isI_in ?_) | ((with_reducible show isTup _ _); refine isTup_in ?_) | ((with_reducible show isS _ _); refine isS_in ?_) | ((with_reducible show isB _ _); refine isB_in ?_))
  rw [hlm, wrap_i64 (n := ((r.length + 1 : Nat) : Int) - 1) (by omega) (by omega), show ((r.length + 1 : Nat) : Int) - 1 = (((c :: r).length - 1 : Nat) : Int) by simp]
  refine opt_in (idx_ro tab48 hdm rfl) ?_
  repeat (first | ((with_reducible show opt _ _); refine opt_in rfl ?_) | ((with_reducible show isI _ _ _); refine isI_in ?_) | ((with_reducible show isTup _ _); refine isTup_in ?_) | ((with_reducible show isS _ _); refine isS_in ?_) | ((with_reducible show isB _ _); refine isB_in ?_))
  refine opt_in (idx0 _) ?_
  repeat (first | ((with_reducible show opt _ _); refine opt_in rfl ?_) | ((with_reducible show isI _ _ _); refine isI_in ?_) | ((with_reducible show isTup _ _); refine isTup_in ?_) | ((with_reducible show isS _ _); refine isS_in ?_) | ((with_reducible show isB _ _); refine isB_in ?_))
  refine opt_in (idx0 _) ?_
  repeat (first | ((with_reducible show opt _ _); refine opt_in rfl ?_) | ((with_reducible show isI _ _ _); refine isI_in ?_) | ((with_reducible show isTup _ _); refine isTup_in ?_) | ((with_reducible show isS _ _); refine isS_in ?_) | ((with_reducible show isB _ _); refine isB_in ?_))
  rw [List.length_map]
  have efrom : IntKind.wrap .i64 ((c.a : Int) - (if (c.a : Int) < (ctx : Int) then (c.a : Int) else (ctx : Int))) = ((c.a - ctx : Nat) : Int) := by
    rw [wrap_i64 (by split <;> omega) (by split <;> omega)]
    split <;> omega
  have eend : IntKind.wrap .i64 ((d.a : Int) + (d.n : Int)) = ((lastEnd (c :: r) 0 : Nat) : Int) := by
    rw [wrap_i64 (by omega) (by omega), hend]; push_cast; rfl
  have eleft : IntKind.wrap .i64 ((A.length : Int) - ((lastEnd (c :: r) 0 : Nat) : Int)) = ((A.length - lastEnd (c :: r) 0 : Nat) : Int) := by
    rw [wrap_i64 (by omega) (by omega)]; omega
  have eto : IntKind.wrap .i64 (((lastEnd (c :: r) 0 : Nat) : Int) + (if ((A.length - lastEnd (c :: r) 0 : Nat) : Int) < (ctx : Int) then ((A.length - lastEnd (c :: r) 0 : Nat) : Int) else (ctx : Int))) = ((lastEnd (c :: r) 0 + min ctx (A.length - lastEnd (c :: r) 0) : Nat) : Int) := by
    rw [wrap_i64 (by split <;> omega) (by split <;> omega)]
    split <;> omega
  rw [efrom, eend, eleft, eto]
  generalize hzz : lastEnd (c :: r) 0 + min ctx (A.length - lastEnd (c :: r) 0) = z at *
  generalize hxx : c.a - ctx = x at *
  generalize hyy : c.b - (c.a - x) = y at *
  refine selvageref10_one.n18_weak (s' := .pv (.sl ((c :: r).map ncP))) (a' := .pv (strsP A)) (b' := .pv (strsP B)) (t8' := .ptr 0 0) (from_' := (x : Nat)) (to' := (z : Nat)) (l_' := oneA []) (at_' := (x : Nat)) (i' := 0) (τ := oneS d []) (EWeak.nil (t := 13) (es := 2) rfl rfl) ?_
  refine one_loop L1 A B hAB d ((c :: r).map ncP) (by rw [hlm]; omega) x z z (c :: r) 0 x y [] rfl hk (by rw [List.length_nil]; omega) ?_
  rw [List.nil_append]
  have hsplit := rowsN_split A B z (c :: r) x
  have hlq : (rowsQ A B (c :: r) x).length + (kindR 1 (seg A (lastEnd (c :: r) x) z)).length = (rowsN A B (c :: r) x z).length := by rw [hsplit, List.length_append]
  have hsl : (kindR 1 (seg A (lastEnd (c :: r) x) z)).length = (seg A (lastEnd (c :: r) x) z).length := List.length_map _
  have hlast : lastEnd (c :: r) x = lastEnd (c :: r) 0 := rfl
  have c1 := cntF_le isOld (rowsN A B (c :: r) x z) 0 (by omega) (by omega)
  have c2 := cntF_le isNew (rowsN A B (c :: r) x z) 0 (by omega) (by omega)
  have eone : oneN A B ctx (c :: r) = ⟨stated x (cntF isOld (rowsN A B (c :: r) x z) 0), cntF isOld (rowsN A B (c :: r) x z) 0, stated y (cntF isNew (rowsN A B (c :: r) x z) 0), cntF isNew (rowsN A B (c :: r) x z) 0, [], rowsN A B (c :: r) x z⟩ := by
    simp only [oneN, hunkN, hxx, hyy, hzz]
  rw [eone]
  exact one_end L1 d c ((c :: r).map ncP) h0 x y z (lastEnd (c :: r) x) (rowsQ A B (c :: r) x) (rowsN A B (c :: r) x z) (by omega) (by omega) hsplit.symm (by omega) hk1 (by omega) (by omega) (by omega)
end
end Go.Sv
