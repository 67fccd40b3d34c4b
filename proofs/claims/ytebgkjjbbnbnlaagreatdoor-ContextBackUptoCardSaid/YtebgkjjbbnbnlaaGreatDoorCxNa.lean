/- Rows sorted: removed ones ahead of added ones in each run. What is printed is read again: both parts put together are the rows, sorted. What is printed is read again: a hunk's lines, as plain lists. -/
import Derived.Test.YtebgkjjbbnbnlaaGreatDoorCxD
import Derived.Test.YtebgkjjbbnbnlaaGreatDoorCxX
set_option linter.unusedVariables false
set_option linter.unusedSimpArgs false
set_option maxRecDepth 100000
section
namespace Go.Sv
def kindF (k : Int) (l : List Row) : List Row := l.filter (fun r => decide (r.k = k))
def sortL : List Row → List Row → List Row → List Row
  | [], run, out => (out ++ kindF 2 run) ++ kindF 3 run
  | r :: l, run, out => if r.k = 2 ∨ r.k = 3 then sortL l (run ++ [r]) out else sortL l [] (((out ++ kindF 2 run) ++ kindF 3 run) ++ [r])
theorem kind_two : ∀ l : List Row, (kindF 2 l).length + (kindF 3 l).length ≤ l.length
  | [] => Nat.le_refl _
  | r :: l => by
    have := kind_two l
    unfold kindF at this ⊢
    rw [List.filter_cons, List.filter_cons]
    by_cases h1 : r.k = 2
    · rw [if_pos (by simpa using h1), if_neg (by simp [h1])]; simp only [List.length_cons]; omega
    · by_cases h2 : r.k = 3
      · rw [if_neg (by simpa using h1), if_pos (by simpa using h2)]; simp only [List.length_cons]; omega
      · rw [if_neg (by simpa using h1), if_neg (by simpa using h2)]; simp only [List.length_cons]; omega
section
open Go Go.RowKit Go.Proofs
variable {w0 : Base} {σ : Store} {R : AV → Store → Prop}
theorem row_get {l : List Row} {i : Nat} {r : Row} (h : l[i]? = some r) : (l.map rowP)[i]? = some (rowP r) := by rw [List.getElem?_map, h]; rfl
theorem kinded_loop {l : List Row} {k : Int} (hl : l.length ≤ 16777216) : ∀ (r : List Row) (i : Nat) (out : List Row), l.drop i = r → out.length ≤ i → out ++ kindF k r = kindF k l →
    C0.n8 (C0.X w0 0) w0 0 (fun r' _ => r' = .pv (rowsP (kindF k l))) (rwsS out) (.pv (rowsP l)) k (rwsA out) i
  | [], i, out, hd, ho, he => by
    have hk := M0 hd
    refine C0.n8_in ?_
    rw [C0.b9_eq]
    repeat ((with_reducible first | apply A0 | apply wI | apply wT | apply wP | apply wS | apply wB); exact rfl)
    rw [A7, List.length_map, if_neg (by omega)]
    refine C0.n23_in ?_
    rw [C0.b23_eq]
    have he' : out = kindF k l := by rw [← he]; simp [kindF]
    have e : sealR 0 ([] ++ rwsS out) (rwsA out) = some (.pv (rowsP out)) := by
      show (if (out.map rowP).length = out.length ∧ 0 + out.length ≤ out.length then some (AV.pv (.sl (((out.map rowP).drop 0).take out.length))) else none) = _
      rw [if_pos ⟨List.length_map _, by omega⟩]
      simp [List.take_of_length_le]
    exact O9 (σ := []) glob0 rfl e (by rw [he'])
  | c :: r, i, out, hd, ho, he => by
    obtain ⟨h1, h2, hk⟩ := H4 hd
    have h22 : ∀ out', out' ++ kindF k r = kindF k l → out'.length ≤ i + 1 → C0.n22 (C0.X w0 0) w0 0 (fun r' _ => r' = .pv (rowsP (kindF k l))) (rwsS out') (.pv (rowsP l)) k (rwsA out') i := by
      intro out' he' ho'
      refine C0.n22_in ?_
      rw [C0.b22_eq, I3 hk (by omega)]
      exact kinded_loop hl r (i + 1) out' h2 ho' he'
    refine C0.n8_in ?_
    rw [C0.b9_eq]
    repeat ((with_reducible first | apply A0 | apply wI | apply wT | apply wP | apply wS | apply wB); exact rfl)
    rw [A7, List.length_map, if_pos (by omega)]
    refine A0 (K7 tab51 (row_get h1) rfl) ?_
    repeat ((with_reducible first | apply A0 | apply wI | apply wT | apply wP | apply wS | apply wB); exact rfl)
    rw [G4]
    refine B8 (fun g => ?_) (fun g => ?_)
    · refine A0 (K7 tab51 (row_get h1) rfl) ?_
      refine A0 (v := .pv (rowP c)) rfl ?_
      refine G2 (v := .pv (.sl [rowP c])) rfl ?_
      refine G2 (R1 (id := 0) (es := 2) (ver := out.length) (xs := out.map rowP) (ys := [rowP c]) rfl rfl (List.length_map _).symm rfl rfl ⟨by rw [List.length_map]; show out.length + 1 ≤ _; omega, by rw [List.length_map]; show (out.length + 1) * 24 ≤ _; omega⟩) ?_
      have e : out.map rowP ++ [rowP c] = (out ++ [c]).map rowP := by simp
      have e2 : (out.map rowP).length + [rowP c].length = (out ++ [c]).length := by simp
      rw [e, e2]
      refine h22 (out ++ [c]) ?_ (by simp; omega)
      rw [← he]
      unfold kindF
      rw [List.filter_cons, if_pos (by simpa using g)]
      simp
    · refine h22 out ?_ (by omega)
      rw [← he]
      unfold kindF
      rw [List.filter_cons, if_neg (by simpa using g)]
theorem kinded_spec (L : Laid w0.w) {l : List Row} {k : Int} (hl : l.length ≤ 16777216) (hR : R (.pv (rowsP (kindF k l))) σ) : A1 (cx w0) C0.id [.pv (rowsP l), .pv (.int .i64 k)] σ R := by
  refine A1.alone L rfl (fun w1 L1 => ?_) rfl hR
  refine C0.calls ?_
  rw [C0.b0_eq]
  refine C0.n8_weak (l_' := .pv (rowsP l)) (kind' := k) (out' := rwsA []) (i' := 0) (τ := rwsS []) (EWeak.nil (t := 5) (es := 2) rfl rfl) ?_
  exact kinded_loop hl l 0 [] rfl (by simp) (by simp)
abbrev srS (out run : List Row) (fz : Bool) : Store := [.arr 2 (out.map rowP) false, .arr 2 (run.map rowP) fz]
abbrev rnA12 (run : List Row) : AV := .arr 1 run.length 0 run.length
theorem put_rows {out ys : List Row} {x : SObj} (hl : out.length + ys.length ≤ 16777216) : I7 [.arr 2 (out.map rowP) false, x] ti51 (rwsA out) (.pv (rowsP ys)) = some (rwsA (out ++ ys), [.arr 2 ((out ++ ys).map rowP) false, x]) := by
  have := R1 (σ := [.arr 2 (out.map rowP) false, x]) (id := 0) (es := 2) (ver := out.length) (xs := out.map rowP) (ys := ys.map rowP) (fz := false) (ei := ti51) (x := .pv (rowsP ys)) rfl rfl (List.length_map _).symm rfl (by
    simp only [sized, List.all_eq_true, List.mem_map]
    rintro x ⟨r, _, rfl⟩
    rfl) ⟨by rw [List.length_map, List.length_map]; omega, by rw [List.length_map, List.length_map]; show (out.length + ys.length) * 24 ≤ _; omega⟩
  have e : out.map rowP ++ ys.map rowP = (out ++ ys).map rowP := by simp
  have e2 : (out.map rowP).length + (ys.map rowP).length = (out ++ ys).length := by simp
  rw [this, e, e2]
  rfl
theorem sorted33 (L : Laid w0.w) {out run v : List Row} (ho : out.length + run.length ≤ 16777216) (hv : (out ++ kindF 2 run) ++ kindF 3 run = v) :
    B4.n33 (B4.X w0 0) w0 0 (fun r' _ => r' = .pv (rowsP v)) (srS out run false) (rwsA out) (rnA12 run) := by
  have k2 := kind_two run
  refine B4.n33_in ?_
  rw [B4.b33_eq]
  refine A1.freeze (id := 1) (es := 2) (xs := run.map rowP) (fz := false) rfl (.cons (.row _ (List.length_map _).symm) (.cons (.same _) .nil)) ?_
  refine kinded_spec L (by omega) ?_
  refine G2 (put_rows (by omega)) ?_
  refine A1.freeze (id := 1) (es := 2) (xs := run.map rowP) (fz := true) rfl (.cons (.row _ (List.length_map _).symm) (.cons (.same _) .nil)) ?_
  refine kinded_spec L (by omega) ?_
  refine G2 (put_rows (by rw [List.length_append]; omega)) ?_
  rw [hv]
  have e : sealR 0 ([] ++ srS v run true) (rwsA v) = some (.pv (rowsP v)) := by
    show (if (v.map rowP).length = v.length ∧ 0 + v.length ≤ v.length then some (AV.pv (.sl (((v.map rowP).drop 0).take v.length))) else none) = _
    rw [if_pos ⟨List.length_map _, by omega⟩]
    simp [List.take_of_length_le]
  exact O9 (σ := []) glob0 rfl e rfl
theorem sorted_loop (L : Laid w0.w) {l v : List Row} (hl : l.length ≤ 16777216) : ∀ (r : List Row) (i : Nat) (run out : List Row), l.drop i = r → i ≤ l.length → out.length + run.length ≤ i → sortL r run out = v →
    B4.n8 (B4.X w0 0) w0 0 (fun r' _ => r' = .pv (rowsP v)) (srS out run false) (.pv (rowsP l)) (rwsA out) (rnA12 run) i
  | [], i, run, out, hd, hi, ho, he => by
    have hk := M0 hd
    refine B4.n8_in ?_
    rw [B4.b9_eq]
    repeat ((with_reducible first | apply A0 | apply wI | apply wT | apply wP | apply wS | apply wB); exact rfl)
    rw [A7, List.length_map, if_neg (by omega)]
    exact sorted33 L (by omega) he
  | c :: r, i, run, out, hd, hi, ho, he => by
    obtain ⟨h1, h2, hk⟩ := H4 hd
    have k2 := kind_two run
    have h20 : ∀ t, t = decide (c.k = 2 ∨ c.k = 3) → B4.n20 (B4.X w0 0) w0 0 (fun r' _ => r' = .pv (rowsP v)) (srS out run false) (.pv (rowsP l)) (rwsA out) (rnA12 run) i t := by
      intro t ht
      refine B4.n20_in ?_
      rw [B4.b20_eq]
      rw [sortL] at he
      refine A5 (fun g => ?_) (fun g => ?_)
      · rw [if_pos (by rw [g] at ht; exact of_decide_eq_true ht.symm)] at he
        refine A0 (K7 tab51 (row_get h1) rfl) ?_
        refine A0 (v := .pv (rowP c)) rfl ?_
        refine G2 (v := .pv (.sl [rowP c])) rfl ?_
        refine G2 (R1 (id := 1) (es := 2) (ver := run.length) (xs := run.map rowP) (ys := [rowP c]) rfl rfl (List.length_map _).symm rfl rfl ⟨by rw [List.length_map]; show run.length + 1 ≤ _; omega, by rw [List.length_map]; show (run.length + 1) * 24 ≤ _; omega⟩) ?_
        have e : run.map rowP ++ [rowP c] = (run ++ [c]).map rowP := by simp
        have e2 : (run.map rowP).length + [rowP c].length = (run ++ [c]).length := by simp
        rw [e, e2]
        refine B4.n32_in ?_
        rw [B4.b32_eq, I3 hk (by omega)]
        exact sorted_loop L hl r (i + 1) (run ++ [c]) out h2 (by omega) (by rw [List.length_append, List.length_singleton]; omega) he
      · rw [if_neg (by rw [g] at ht; exact of_decide_eq_false ht.symm)] at he
        refine A1.freeze (id := 1) (es := 2) (xs := run.map rowP) (fz := false) rfl (.cons (.row _ (List.length_map _).symm) (.cons (.same _) .nil)) ?_
        refine kinded_spec L (by omega) ?_
        refine G2 (put_rows (by omega)) ?_
        refine A1.freeze (id := 1) (es := 2) (xs := run.map rowP) (fz := true) rfl (.cons (.row _ (List.length_map _).symm) (.cons (.same _) .nil)) ?_
        refine kinded_spec L (by omega) ?_
        refine G2 (put_rows (by rw [List.length_append]; omega)) ?_
        refine A0 (K7 tab51 (row_get h1) rfl) ?_
        refine A0 (v := .pv (rowP c)) rfl ?_
        refine G2 (v := .pv (rowsP [c])) rfl ?_
        refine G2 (put_rows (by simp only [List.length_append, List.length_singleton]; omega)) ?_
        refine B4.n32_in ?_
        rw [B4.b32_eq, I3 hk (by omega)]
        generalize hO : ((out ++ kindF 2 run) ++ kindF 3 run) ++ [c] = o2 at he
        have ho2 : o2.length ≤ i + 1 := by rw [← hO]; simp only [List.length_append, List.length_singleton]; omega
        refine B4.n8_weak (EWeak.drop (τ := [.arr 2 (o2.map rowP) false]) glob0 (Nat.le_of_ble_eq_true rfl) rfl rfl) ?_
        refine B4.n8_weak (l_' := .pv (rowsP l)) (out' := rwsA o2) (run' := rnA12 []) (i' := ((i + 1 : Nat) : Int)) (τ := srS o2 [] false) (EWeak.nil (t := 4) (es := 2) rfl rfl) ?_
        exact sorted_loop L hl r (i + 1) [] o2 h2 (by omega) (by simpa using ho2) he
    refine B4.n8_in ?_
    rw [B4.b9_eq]
    repeat ((with_reducible first | apply A0 | apply wI | apply wT | apply wP | apply wS | apply wB); exact rfl)
    rw [A7, List.length_map, if_pos (by omega)]
    refine A0 (K7 tab51 (row_get h1) rfl) ?_
    repeat ((with_reducible first | apply A0 | apply wI | apply wT | apply wP | apply wS | apply wB); exact rfl)
    rw [G4]
    refine B8 (fun g => ?_) (fun g => ?_)
    · generalize hb : true = b
      exact h20 b (by rw [← hb]; simp [g])
    · refine A0 (K7 tab51 (row_get h1) rfl) ?_
      repeat ((with_reducible first | apply A0 | apply wI | apply wT | apply wP | apply wS | apply wB); exact rfl)
      refine h20 _ ?_
      simp [g]
      rfl
def sortF (l : List Row) : List Row := sortL l [] []
theorem Sorted_spec (L : Laid w0.w) {l : List Row} (hl : l.length ≤ 16777216) (hR : R (.pv (rowsP (sortF l))) σ) : A1 (cx w0) B4.id [.pv (rowsP l)] σ R := by
  refine A1.alone L rfl (fun w1 L1 => ?_) rfl hR
  refine B4.calls ?_
  rw [B4.b0_eq]
  refine B4.n8_weak (l_' := .pv (rowsP l)) (out' := rwsA []) (run' := .nilsl) (i' := 0) (τ := [.arr 2 [] false]) (EWeak.nil (t := 3) (es := 2) rfl rfl) ?_
  refine B4.n8_weak (l_' := .pv (rowsP l)) (out' := rwsA []) (run' := rnA12 []) (i' := 0) (τ := srS [] [] false) (EWeak.nil (t := 4) (es := 2) rfl rfl) ?_
  exact sorted_loop L1 hl l 0 [] [] rfl (by omega) (by simp) rfl
end
end Go.Sv
end
section
namespace Go.Sv
def partM (kd : Int) : List Row → List UInt8 → List Mkd
  | r :: l, c :: m => (if r.k = 1 ∨ r.k = kd then [⟨c, r.t⟩] else []) ++ partM kd l m
  | _, _ => []
theorem partM_app {kd : Int} {rest : List Row} {mrest : List UInt8} : ∀ (run : List Row) (mr : List UInt8), run.length = mr.length → partM kd (run ++ rest) (mr ++ mrest) = partM kd run mr ++ partM kd rest mrest
  | [], [], _ => rfl
  | r :: l, c :: m, h => by
    have ih := partM_app (kd := kd) (rest := rest) (mrest := mrest) l m (by simpa using h)
    rw [List.cons_append, List.cons_append, partM, partM, ih, List.append_assoc]
  | [], _ :: _, h => by simp at h
  | _ :: _, [], h => by simp at h
theorem partM_run {kd : Int} {f : Row → UInt8} : ∀ run : List Row, (∀ x ∈ run, x.k ≠ 1) → partM kd run (run.map f) = (kindF kd run).map (fun x => ⟨f x, x.t⟩)
  | [], _ => rfl
  | r :: l, h => by
    have ih := partM_run (kd := kd) (f := f) l (fun x hx => h x (List.mem_cons_of_mem _ hx))
    have h1 := h r (by simp)
    rw [List.map_cons, partM, ih]
    unfold kindF
    rw [List.filter_cons]
    by_cases e : r.k = kd
    · rw [if_pos (.inr e), if_pos (by simpa using e)]; rfl
    · rw [if_neg (fun h => h.elim h1 e), if_neg (by simpa using e)]; rfl
theorem tk_td {rest : List Mkd} (hr : rest = [] ∨ ∃ y r, rest = y :: r ∧ y.m = 32) : ∀ g : List Mkd, (∀ x ∈ g, x.m ≠ 32) → tkM (g ++ rest) = g ∧ tdM (g ++ rest) = rest
  | [], _ => by
    rcases hr with rfl | ⟨y, r, rfl, hy⟩
    · exact ⟨rfl, rfl⟩
    · exact ⟨by unfold tkM; simp [hy], by unfold tdM; simp [hy]⟩
  | x :: g, h => by
    obtain ⟨i1, i2⟩ := tk_td hr g (fun y hy => h y (List.mem_cons_of_mem _ hy))
    have hx := h x (by simp)
    unfold tkM at i1
    unfold tdM at i2
    refine ⟨?_, ?_⟩
    · unfold tkM
      rw [List.cons_append, List.takeWhile_cons, if_pos (by simpa using hx), i1]
    · unfold tdM
      rw [List.cons_append, List.dropWhile_cons, if_pos (by simpa using hx), i2]
theorem has_kind {k : Int} (hk : k ≠ 1) : ∀ L : List Row, K6 k L = !(kindF k (L.take (runN L))).isEmpty
  | [] => rfl
  | r :: l => by
    unfold K6 runN
    by_cases e : r.k = 1
    · rw [if_pos e, if_pos e]; rfl
    · rw [if_neg e, if_neg e, has_kind hk l, List.take_succ_cons]
      unfold kindF
      rw [List.filter_cons]
      by_cases e2 : r.k = k
      · rw [if_pos (by simpa using e2)]; simp [e2]
      · rw [if_neg (by simpa using e2)]; simp [e2]
theorem run_marks : ∀ (n : Nat) (L : List Row), L.length ≤ n → ∃ n', (L.drop (runN L)).length ≤ n' ∧ H1 n L = (L.take (runN L)).map (fun x => markR (K6 2 L) (K6 3 L) x.k) ++ H1 n' (L.drop (runN L))
  | n, [], _ => ⟨n, by simp, by cases n <;> rfl⟩
  | 0, r :: l, h => by simp at h
  | n + 1, r :: l, h => by
    by_cases e : r.k = 1
    · refine ⟨n + 1, by simp only [List.length_drop]; omega, ?_⟩
      have : runN (r :: l) = 0 := by unfold runN; rw [if_pos e]
      rw [this]; rfl
    · refine ⟨n, ?_, ?_⟩
      · have : 1 ≤ runN (r :: l) := by unfold runN; rw [if_neg e]; omega
        rw [List.length_drop]; simp only [List.length_cons] at h ⊢; omega
      · rw [H1, if_neg e]
theorem run_ok {A B : List Row} (hA : ∀ x ∈ A, x.k = 2) (hB : ∀ x ∈ B, x.k = 3) : runOK (A.map (fun x => ⟨markR (!A.isEmpty) (!B.isEmpty) x.k, x.t⟩)) (B.map (fun x => ⟨markR (!A.isEmpty) (!B.isEmpty) x.k, x.t⟩)) = true := by
  have only : ∀ (l : List Row) (f : Row → UInt8) (m : UInt8), l ≠ [] → (∀ x ∈ l, f x = m) → onlyM (l.map (fun x => ⟨f x, x.t⟩)) m = true := by
    intro l f m h1 h2
    unfold onlyM
    rw [Bool.and_eq_true]
    refine ⟨?_, by cases l with | nil => exact absurd rfl h1 | cons a r => rfl⟩
    rw [List.all_eq_true]
    intro y hy
    obtain ⟨x, hx, rfl⟩ := List.mem_map.1 hy
    simpa using h2 x hx
  unfold runOK
  cases hA0 : A with
  | nil =>
    cases hB0 : B with
    | nil => rfl
    | cons b B' =>
      rw [← hB0]
      have h := only B (fun x => markR (!([] : List Row).isEmpty) (!B.isEmpty) x.k) 43 (by rw [hB0]; simp) (fun x hx => by rw [hB x hx]; rfl)
      rw [h]; simp
  | cons a A' =>
    rw [← hA0]
    have hAe : A.isEmpty = false := by rw [hA0]; rfl
    cases hB0 : B with
    | nil =>
      have h := only A (fun x => markR (!A.isEmpty) (!([] : List Row).isEmpty) x.k) 45 (by rw [hA0]; simp) (fun x hx => by rw [hA x hx, hAe]; rfl)
      rw [h]; simp
    | cons b B' =>
      rw [← hB0]
      have hBe : B.isEmpty = false := by rw [hB0]; rfl
      have h := only A (fun x => markR (!A.isEmpty) (!B.isEmpty) x.k) 33 (by rw [hA0]; simp) (fun x hx => by rw [hA x hx, hAe, hBe]; rfl)
      have h' := only B (fun x => markR (!A.isEmpty) (!B.isEmpty) x.k) 33 (by rw [hB0]; simp) (fun x hx => by rw [hB x hx, hAe, hBe]; rfl)
      rw [h, h']; simp
theorem kindF_k {k : Int} {l : List Row} : ∀ x ∈ kindF k l, x.k = k := fun x hx => by
  unfold kindF at hx
  simpa using (List.mem_filter.1 hx).2
theorem runRows_back {A B : List Row} {f g : Row → UInt8} (hA : ∀ x ∈ A, x.k = 2) (hB : ∀ x ∈ B, x.k = 3) : U0 (A.map (fun x => ⟨f x, x.t⟩)) (B.map (fun x => ⟨g x, x.t⟩)) = A ++ B := by
  have key : ∀ (l : List Row) (h : Row → UInt8) (k : Int), (∀ x ∈ l, x.k = k) → (l.map (fun x => (⟨h x, x.t⟩ : Mkd))).map (fun x => (⟨k, x.t⟩ : Row)) = l := by
    intro l h k hl
    rw [List.map_map]
    conv => rhs; rw [← List.map_id l]
    refine List.map_congr_left fun x hx => ?_
    show (⟨k, x.t⟩ : Row) = x
    rw [← hl x hx]
  unfold U0
  rw [key A f 2 hA, key B g 3 hB]
theorem sort_run : ∀ (run : List Row) (rest acc out : List Row), (∀ x ∈ run, x.k = 2 ∨ x.k = 3) → sortL (run ++ rest) acc out = sortL rest (acc ++ run) out
  | [], rest, acc, out, _ => by simp
  | r :: l, rest, acc, out, h => by
    rw [List.cons_append, sortL, if_pos (h r (by simp)), sort_run l rest (acc ++ [r]) out (fun x hx => h x (List.mem_cons_of_mem _ hx))]
    simp
theorem mark_ne (o f : Bool) (k : Int) : markR o f k ≠ 32 := by
  unfold markR
  split
  · decide
  · split <;> decide
theorem togL_back : ∀ (f n : Nat) (L out : List Row), (kindF 1 L).length < f → L.length ≤ n → (∀ x ∈ L, x.k = 1 ∨ x.k = 2 ∨ x.k = 3) → togL f (partM 2 L (H1 n L)) (partM 3 L (H1 n L)) out = some (sortL L [] out)
  | 0, _, _, _, h, _, _ => absurd h (Nat.not_lt_zero _)
  | f + 1, n, L, out, hf, hn, hk => by
    obtain ⟨n', hn', hm⟩ := run_marks n L hn
    have hstop := runN_stop L
    have hL : L.take (runN L) ++ L.drop (runN L) = L := List.take_append_drop _ _
    have hlen := congrArg List.length hL
    rw [List.length_append] at hlen
    have hrun : ∀ x ∈ L.take (runN L), x.k ≠ 1 := by
      intro x hx
      obtain ⟨i, hi, rfl⟩ := List.mem_iff_getElem.1 hx
      rw [List.length_take] at hi
      rw [List.getElem_take]
      exact runN_no L i _ (by omega) (List.getElem?_eq_getElem (by omega))
    have h2 := has_kind (k := 2) (by decide) L
    have h3 := has_kind (k := 3) (by decide) L
    generalize hr : L.take (runN L) = run at *
    generalize hq : L.drop (runN L) = rest at *
    have hks : ∀ x ∈ run, x.k = 2 ∨ x.k = 3 := fun x hx => (hk x (by rw [← hL]; exact List.mem_append_left _ hx)).resolve_left (hrun x hx)
    have pm : ∀ kd, partM kd L (H1 n L) = (kindF kd run).map (fun x => ⟨markR (K6 2 L) (K6 3 L) x.k, x.t⟩) ++ partM kd rest (H1 n' rest) := by
      intro kd
      rw [hm]
      have := partM_app (kd := kd) (rest := rest) (mrest := H1 n' rest) run (run.map (fun x => markR (K6 2 L) (K6 3 L) x.k)) (by simp)
      rw [hL] at this
      rw [this, partM_run run hrun]
    have hne : ∀ kd, ∀ x ∈ (kindF kd run).map (fun x => (⟨markR (K6 2 L) (K6 3 L) x.k, x.t⟩ : Mkd)), x.m ≠ 32 := by
      intro kd x hx
      obtain ⟨y, _, rfl⟩ := List.mem_map.1 hx
      exact mark_ne _ _ _
    have hok := run_ok (A := kindF 2 run) (B := kindF 3 run) kindF_k kindF_k
    rw [← h2, ← h3] at hok
    have hrr := runRows_back (A := kindF 2 run) (B := kindF 3 run) (f := fun x => markR (K6 2 L) (K6 3 L) x.k) (g := fun x => markR (K6 2 L) (K6 3 L) x.k) kindF_k kindF_k
    rw [pm 2, pm 3]
    have hs : sortL L [] out = sortL rest run out := by
      rw [← hL, sort_run run rest [] out hks, List.nil_append]
    rw [hs]
    rcases hstop with e | ⟨c, q, e, hc⟩
    · subst e
      have z : ∀ kd, partM kd [] (H1 n' []) = [] := fun kd => by cases n' <;> rfl
      rw [z 2, z 3]
      obtain ⟨t1, t2⟩ := tk_td (rest := []) (.inl rfl) _ (hne 2)
      obtain ⟨t3, t4⟩ := tk_td (rest := []) (.inl rfl) _ (hne 3)
      rw [togL, t1, t2, t3, t4, if_pos hok, hrr]
      simp [sortL]
    · subst e
      cases n' with
      | zero => simp at hn'
      | succ n2 =>
        have z : ∀ kd, partM kd (c :: q) (H1 (n2 + 1) (c :: q)) = ⟨32, c.t⟩ :: partM kd q (H1 n2 q) := fun kd => by
          rw [H1, if_pos hc, partM, if_pos (.inl hc)]; rfl
        rw [z 2, z 3]
        obtain ⟨t1, t2⟩ := tk_td (rest := ⟨32, c.t⟩ :: partM 2 q (H1 n2 q)) (.inr ⟨_, _, rfl, rfl⟩) _ (hne 2)
        obtain ⟨t3, t4⟩ := tk_td (rest := ⟨32, c.t⟩ :: partM 3 q (H1 n2 q)) (.inr ⟨_, _, rfl, rfl⟩) _ (hne 3)
        rw [togL, t1, t2, t3, t4, if_pos hok, hrr]
        simp only [if_true]
        have hce : (⟨1, c.t⟩ : Row) = c := by rw [← hc]
        simp only [List.length_cons] at hlen hn'
        have hk1 : (kindF 1 q).length < (kindF 1 L).length := by
          rw [← hL]
          unfold kindF
          rw [List.filter_append, List.filter_cons, if_pos (by simpa using hc)]
          simp only [List.length_append, List.length_cons]; omega
        rw [togL_back f n2 q _ (by omega) (by omega) (fun x hx => hk x (by rw [← hL]; simp [hx])), hce, sortL, if_neg (by rw [hc]; decide)]
        simp
theorem partM_len {kd : Int} : ∀ (L : List Row) (m : List UInt8), L.length = m.length → (kindF 1 L).length ≤ (partM kd L m).length
  | [], [], _ => Nat.le_refl _
  | r :: l, c :: m, h => by
    have ih := partM_len (kd := kd) l m (by simpa using h)
    unfold kindF at ih ⊢
    rw [List.filter_cons, partM, List.length_append]
    by_cases e : r.k = 1
    · rw [if_pos (by simpa using e), if_pos (.inl e)]; simp only [List.length_cons, List.length_nil]; omega
    · rw [if_neg (by simpa using e)]; omega
  | [], _ :: _, h => by simp at h
  | _ :: _, [], h => by simp at h
theorem ctx_part {kd kd' : Int} : ∀ (L : List Row) (m : List UInt8), L.length = m.length → (∀ (i : Nat) r c, L[i]? = some r → m[i]? = some c → (c = 32 ↔ r.k = 1)) → (∀ x ∈ L, x.k ≠ kd) → ctxM (partM kd' L m) = partM kd L m
  | [], [], _, _, _ => rfl
  | r :: l, c :: m, h, hm, hk => by
    have ih := ctx_part (kd := kd) (kd' := kd') l m (by simpa using h) (fun i r c h1 h2 => hm (i + 1) r c (by simpa using h1) (by simpa using h2)) (fun x hx => hk x (List.mem_cons_of_mem _ hx))
    have h0 := hm 0 r c rfl rfl
    have hk0 := hk r (by simp)
    unfold ctxM at ih ⊢
    rw [partM, partM, List.filter_append, ih]
    congr 1
    by_cases e : r.k = 1
    · rw [if_pos (.inl e), if_pos (.inl e), List.filter_cons, if_pos (by simpa using h0.2 e)]; rfl
    · rw [if_neg (show ¬ (r.k = 1 ∨ r.k = kd) from fun h => h.elim e hk0)]
      split
      · rw [List.filter_cons, if_neg (by simpa using fun h => e (h0.1 h))]; rfl
      · rfl
  | [], _ :: _, h, _, _ => by simp at h
  | _ :: _, [], h, _, _ => by simp at h
def partG (kd : Int) (L : List Row) (m : List UInt8) : List Mkd := if anyK kd L = true then partM kd L m else []
theorem anyK_no {kd : Int} {L : List Row} (h : ¬ anyK kd L = true) : ∀ x ∈ L, x.k ≠ kd := by
  intro x hx e
  refine h ?_
  unfold anyK
  rw [List.any_eq_true]
  exact ⟨x, hx, by simpa using e⟩
theorem partM_any {kd : Int} : ∀ (L : List Row) (m : List UInt8), L.length = m.length → anyK kd L = true → partM kd L m ≠ []
  | [], _, _, h => by simp [anyK] at h
  | r :: l, [], h, _ => by simp at h
  | r :: l, c :: m, h, ha => by
    rw [partM]
    by_cases e : r.k = 1 ∨ r.k = kd
    · rw [if_pos e]; simp
    · rw [if_neg e, List.nil_append]
      refine partM_any l m (by simpa using h) ?_
      unfold anyK at ha ⊢
      rw [List.any_cons] at ha
      have : (r.k == kd) = false := by simpa using fun h => e (.inr h)
      rwa [this, Bool.false_or] at ha
theorem marks_ok (L : List Row) : L.length = (H1 L.length L).length ∧ ∀ (i : Nat) r c, L[i]? = some r → (H1 L.length L)[i]? = some c → (c = 32 ↔ r.k = 1) := by
  obtain ⟨a, b⟩ := marks_at L.length [] L (Nat.le_refl _) (.inl rfl)
  refine ⟨a.symm, fun i r c h1 h2 => ?_⟩
  rw [b i r h1, Option.some.injEq] at h2
  rw [← h2]
  unfold markAt
  split
  · rename_i h; exact ⟨fun _ => h, fun _ => rfl⟩
  · rename_i h; exact ⟨fun e => absurd e (mark_ne _ _ _), fun e => absurd e h⟩
theorem togF_back (L : List Row) (hk : ∀ x ∈ L, x.k = 1 ∨ x.k = 2 ∨ x.k = 3) (hany : anyK 2 L = true ∨ anyK 3 L = true) : togF (partG 2 L (H1 L.length L)) (partG 3 L (H1 L.length L)) = some (sortL L [] []) := by
  obtain ⟨hl, hm⟩ := marks_ok L
  have t := fun f hf => togL_back f L.length L [] hf (Nat.le_refl _) hk
  have p2 := partM_len (kd := 2) L _ hl
  have p3 := partM_len (kd := 3) L _ hl
  unfold partG togF
  by_cases a2 : anyK 2 L = true
  · have n2 := partM_any (kd := 2) L _ hl a2
    by_cases a3 : anyK 3 L = true
    · have n3 := partM_any (kd := 3) L _ hl a3
      rw [if_pos a2, if_pos a3, if_neg (fun h => n2 h.1), if_neg n2, if_neg n3]
      exact t _ (by omega)
    · rw [if_pos a2, if_neg a3, if_neg (fun h => n2 h.1), if_neg n2, if_pos rfl, ctx_part (kd := 3) L _ hl hm (anyK_no a3)]
      exact t _ (by omega)
  · have a3 : anyK 3 L = true := hany.resolve_left a2
    have n3 := partM_any (kd := 3) L _ hl a3
    rw [if_neg a2, if_pos a3, if_neg (fun h => n3 h.2), if_pos rfl, ctx_part (kd := 2) L _ hl hm (anyK_no a2)]
    exact t _ (by omega)
end Go.Sv
end
section
namespace Go.Sv
theorem mkLines_flat (x : Mkd) : (Q8 x).flatten = x.m :: 32 :: tailF x.t := by
  unfold Q8 tailF
  split <;> simp
theorem partL_flat {kd : Int} : ∀ (L : List Row) (m : List UInt8), partL kd L m = ((partM kd L m).flatMap Q8).flatten
  | [], [] => rfl
  | [], _ :: _ => rfl
  | _ :: _, [] => rfl
  | r :: l, c :: m => by
    rw [partL, partM, partL_flat l m, List.flatMap_append, List.flatten_append]
    congr 1
    split
    · rw [List.flatMap_cons, List.flatMap_nil, List.append_nil, mkLines_flat]
    · rfl
theorem partF_flat {kd : Int} (L : List Row) (m : List UInt8) : partF kd L m = ((partG kd L m).flatMap Q8).flatten := by
  unfold partF partG
  split
  · exact partL_flat L m
  · rfl
def U2 (h : Hnk) : List Ln :=
  (Q6 h ++ [10]) :: ([42, 42, 42, 32] ++ (spanC h.a h.n ++ ([32, 42, 42, 42, 42] ++ [10]))) :: ((partG 2 h.rows (H1 h.rows.length h.rows)).flatMap Q8 ++
    ([45, 45, 45, 32] ++ (spanC h.b h.m ++ ([32, 45, 45, 45, 45] ++ [10]))) :: (partG 3 h.rows (H1 h.rows.length h.rows)).flatMap Q8)
theorem cLines_flat (h : Hnk) : (U2 h).flatten = X4 h := by
  unfold U2 X4
  rw [partF_flat, partF_flat]
  simp
theorem partM_marks {kd : Int} {kind : UInt8} : ∀ (L : List Row) (m : List UInt8), (∀ (i : Nat) r c, L[i]? = some r → m[i]? = some c → r.k = 1 ∨ r.k = kd → c = 32 ∨ c = kind ∨ c = 33) → ∀ x ∈ partM kd L m, (x.m = 32 ∨ x.m = kind ∨ x.m = 33) ∧ ∃ r ∈ L, x.t = r.t
  | [], [], _, x, hx => by cases hx
  | [], _ :: _, _, x, hx => by cases hx
  | _ :: _, [], _, x, hx => by cases hx
  | r :: l, c :: m, h, x, hx => by
    rw [partM] at hx
    rcases List.mem_append.1 hx with hx | hx
    · split at hx
      · rename_i e
        rw [List.mem_singleton] at hx
        rw [hx]
        exact ⟨h 0 r c rfl rfl e, r, by simp, rfl⟩
      · cases hx
    · obtain ⟨i1, y, hy, i2⟩ := partM_marks l m (fun i r c h1 h2 => h (i + 1) r c (by simpa using h1) (by simpa using h2)) x hx
      exact ⟨i1, y, List.mem_cons_of_mem _ hy, i2⟩
theorem partG_marks {kd : Int} {kind : UInt8} (hk : (kd = 2 ∧ kind = 45) ∨ (kd = 3 ∧ kind = 43)) (L : List Row) : ∀ x ∈ partG kd L (H1 L.length L), (x.m = 32 ∨ x.m = kind ∨ x.m = 33) ∧ ∃ r ∈ L, x.t = r.t := by
  obtain ⟨a, b⟩ := marks_at L.length [] L (Nat.le_refl _) (.inl rfl)
  intro x hx
  unfold partG at hx
  split at hx
  · refine partM_marks L _ (fun i r c h1 h2 h3 => ?_) x hx
    rw [b i r h1, Option.some.injEq] at h2
    rw [← h2]
    unfold markAt markR
    rcases h3 with e | e
    · rw [if_pos e]; exact .inl rfl
    · rw [e]
      rcases hk with ⟨rfl, rfl⟩ | ⟨rfl, rfl⟩
      · rw [if_neg (by decide)]
        split
        · exact .inr (.inr rfl)
        · exact .inr (.inl rfl)
      · rw [if_neg (by decide)]
        split
        · exact .inr (.inr rfl)
        · exact .inr (.inl rfl)
  · cases hx
theorem sort_out : ∀ (l run out : List Row), sortL l run out = out ++ sortL l run []
  | [], run, out => by simp [sortL]
  | r :: l, run, out => by
    rw [sortL, sortL]
    split
    · exact sort_out l (run ++ [r]) out
    · rw [sort_out l [] (((out ++ kindF 2 run) ++ kindF 3 run) ++ [r]), sort_out l [] ((([] ++ kindF 2 run) ++ kindF 3 run) ++ [r])]
      simp
theorem kindF_app (k : Int) (a b : List Row) : kindF k (a ++ b) = kindF k a ++ kindF k b := List.filter_append ..
theorem kindF_same {k : Int} {l : List Row} (h : ∀ x ∈ l, x.k = k) : kindF k l = l := by
  unfold kindF
  rw [List.filter_eq_self]
  intro x hx
  simpa using h x hx
theorem kindF_none {k : Int} {l : List Row} (h : ∀ x ∈ l, x.k ≠ k) : kindF k l = [] := by
  unfold kindF
  rw [List.filter_eq_nil_iff]
  intro x hx
  simpa using h x hx
theorem rowsF_any : ∀ (l : List Row) (e o c : Bool), rowsF l e o c = true → (∀ r ∈ l, r.k = 1 ∨ r.k = 2 ∨ r.k = 3) ∧ (c = true ∨ anyK 2 l = true ∨ anyK 3 l = true)
  | [], _, _, c, h => ⟨by simp, .inl h⟩
  | r :: l, e, o, c, h => by
    rw [rowsF] at h
    split at h
    · cases h
    · rename_i hb
      obtain ⟨i1, i2⟩ := rowsF_any l _ _ _ h
      have hk : r.k = 1 ∨ r.k = 2 ∨ r.k = 3 := by
        unfold badR isOld isNew at hb
        simp only [Bool.or_eq_true, Bool.and_eq_true, Bool.not_eq_true', Bool.or_eq_false_iff, beq_eq_false_iff_ne, not_or] at hb
        by_cases h1 : r.k = 1
        · exact .inl h1
        · by_cases h2 : r.k = 2
          · exact .inr (.inl h2)
          · by_cases h3 : r.k = 3
            · exact .inr (.inr h3)
            · exact absurd ⟨⟨h1, h2⟩, h1, h3⟩ hb.1.1.1
      refine ⟨fun x hx => ?_, ?_⟩
      · rcases List.mem_cons.1 hx with rfl | hx
        · exact hk
        · exact i1 x hx
      · unfold anyK at i2 ⊢
        rw [List.any_cons, List.any_cons]
        rcases i2 with i2 | i2 | i2
        · cases hc : c with
          | true => exact .inl rfl
          | false =>
            rw [hc] at i2
            have h1 : r.k ≠ 1 := by simpa using i2
            rcases hk with h | h | h
            · exact absurd h h1
            · exact .inr (.inl (by rw [h]; rfl))
            · exact .inr (.inr (by rw [h]; rfl))
        · exact .inr (.inl (by rw [i2, Bool.or_true]))
        · exact .inr (.inr (by rw [i2, Bool.or_true]))
theorem mkLines_wl {x : Mkd} (h : lineB x.t = true) (hm : x.m ≠ 10) : ∀ l ∈ Q8 x, wl l := by
  intro l hl
  have hne : x.t ≠ [] := fun e => by rw [e] at h; simp [lineB] at h
  have h2 : ∀ c ∈ ([x.m, 32] : Ln), c ≠ 10 := by
    intro c hc
    rcases List.mem_cons.1 hc with rfl | hc
    · exact hm
    · rw [List.mem_singleton] at hc; rw [hc]; decide
  have e : ∀ t : Ln, x.m :: 32 :: t = [x.m, 32] ++ t := fun t => rfl
  unfold Q8 at hl
  split at hl
  · rename_i hw
    rw [List.mem_singleton] at hl; rw [hl, e]
    exact ⟨N4 _ _ h2 h, by rw [K8 hne]; exact hw⟩
  · rename_i hw
    have hp := part_no10 h (by simpa using hw)
    rcases List.mem_cons.1 hl with hl | hl
    · rw [hl, e]
      exact ⟨N4 _ _ h2 (N4 _ _ hp rfl), by rw [K8 (by simp), K8 (by simp)]; rfl⟩
    · rw [List.mem_singleton] at hl; rw [hl]; exact ⟨rfl, rfl⟩
theorem itoa_no10 {a : Int} (h0 : 0 ≤ a) : ∀ x ∈ Lib.itoa a, x ≠ 10 := by
  obtain ⟨u, rfl⟩ : ∃ u : Nat, a = u := ⟨a.toNat, by omega⟩
  have e : Lib.itoa (u : Int) = Lib.decDigits u := by unfold Lib.itoa; rw [if_neg (by omega)]; simp
  rw [e]
  intro x hx h
  have := List.all_eq_true.1 (dec_facts u).1 x hx
  rw [h] at this
  exact absurd this (by decide)
theorem spanC_no10 {a n : Int} (h0 : 0 ≤ a) (h2 : 0 ≤ n) : ∀ x ∈ spanC a n, x ≠ 10 := by
  unfold spanC
  split
  · exact itoa_no10 h0
  · intro x hx
    simp only [List.mem_append, List.mem_singleton] at hx
    rcases hx with (hx | rfl) | hx
    · exact itoa_no10 h0 x hx
    · decide
    · exact itoa_no10 (by omega) x hx
theorem end_wl {s : Ln} (h : ∀ c ∈ s, c ≠ 10) : wl (s ++ [10]) := ⟨N4 _ _ h rfl, by rw [K8 (by simp)]; rfl⟩
theorem cLines_wl {h : Hnk} (hh : ∀ c ∈ h.head, c ≠ 10) (ha : 0 ≤ h.a) (hn : 0 ≤ h.n) (hb : 0 ≤ h.b) (hm : 0 ≤ h.m) (hr : ∀ r ∈ h.rows, lineB r.t = true) : ∀ l ∈ U2 h, wl l := by
  have part : ∀ (kd : Int) (kind : UInt8), ((kd = 2 ∧ kind = 45) ∨ (kd = 3 ∧ kind = 43)) → ∀ l ∈ (partG kd h.rows (H1 h.rows.length h.rows)).flatMap Q8, wl l := by
    intro kd kind hk l hl
    obtain ⟨x, hx, hl⟩ := List.mem_flatMap.1 hl
    obtain ⟨m1, r, hr1, hr2⟩ := partG_marks hk h.rows x hx
    refine mkLines_wl (by rw [hr2]; exact hr r hr1) ?_ l hl
    rcases m1 with e | e | e
    · rw [e]; decide
    · rw [e]; rcases hk with ⟨_, rfl⟩ | ⟨_, rfl⟩ <;> decide
    · rw [e]; decide
  have span : ∀ (p q : Ln) (a n : Int), (∀ c ∈ p, c ≠ 10) → (∀ c ∈ q, c ≠ 10) → 0 ≤ a → 0 ≤ n → wl (p ++ (spanC a n ++ (q ++ [10]))) := by
    intro p q a n h1 h2 h3 h4
    have e : p ++ (spanC a n ++ (q ++ [10])) = (p ++ (spanC a n ++ q)) ++ [10] := by simp
    rw [e]
    refine end_wl fun c hc => ?_
    simp only [List.mem_append] at hc
    rcases hc with hc | hc | hc
    · exact h1 c hc
    · exact spanC_no10 h3 h4 c hc
    · exact h2 c hc
  intro l hl
  unfold U2 at hl
  simp only [List.mem_cons, List.mem_append] at hl
  rcases hl with rfl | rfl | hl | rfl | hl
  · refine end_wl fun c hc => ?_
    unfold Q6 at hc
    split at hc
    · revert c; decide
    · simp only [List.mem_append] at hc
      rcases hc with hc | hc | hc
      · revert c; decide
      · revert c; decide
      · exact hh c hc
  · exact span _ _ _ _ (by decide) (by decide) ha hn
  · exact part 2 45 (.inl ⟨rfl, rfl⟩) l hl
  · exact span _ _ _ _ (by decide) (by decide) hb hm
  · exact part 3 43 (.inr ⟨rfl, rfl⟩) l hl
end Go.Sv
end
