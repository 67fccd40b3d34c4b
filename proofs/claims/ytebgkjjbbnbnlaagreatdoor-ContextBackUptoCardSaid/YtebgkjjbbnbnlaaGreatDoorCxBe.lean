/- What is printed is read again: a hunk with its rows sorted is printed as it was. What is printed is read again: a whole context diff, as plain lists. The document's answer for a file's text; the law UnifiedPrints. -/
import Derived.Test.YtebgkjjbbnbnlaaGreatDoorCxNa
import Derived.Test.YtebgkjjbbnbnlaaGreatDoorCxB
set_option linter.unusedVariables false
set_option linter.unusedSimpArgs false
set_option maxRecDepth 100000
section
namespace Go.Sv
def srtH (h : Hnk) : Hnk := { h with rows := sortL h.rows [] [] }
theorem kind_perm : ∀ run : List Row, (∀ x ∈ run, x.k = 2 ∨ x.k = 3) → (kindF 2 run ++ kindF 3 run).Perm run
  | [], _ => List.Perm.nil
  | x :: l, h => by
    have ih := kind_perm l (fun y hy => h y (List.mem_cons_of_mem _ hy))
    unfold kindF at ih ⊢
    rw [List.filter_cons, List.filter_cons]
    rcases h x (by simp) with e | e
    · rw [if_pos (by simpa using e), if_neg (by simp [e])]
      exact ih.cons x
    · rw [if_neg (by simp [e]), if_pos (by simpa using e)]
      exact List.perm_middle.trans (ih.cons x)
theorem sort_perm : ∀ (l run out : List Row), (∀ x ∈ run, x.k = 2 ∨ x.k = 3) → (sortL l run out).Perm (out ++ (run ++ l))
  | [], run, out, h => by
    rw [sortL, List.append_assoc, List.append_nil]
    exact (kind_perm run h).append_left out
  | r :: l, run, out, h => by
    rw [sortL]
    split
    · rename_i e
      have := sort_perm l (run ++ [r]) out (fun x hx => by
        rcases List.mem_append.1 hx with hx | hx
        · exact h x hx
        · rw [List.mem_singleton] at hx; rw [hx]; exact e)
      simpa using this
    · refine (sort_perm l [] (((out ++ kindF 2 run) ++ kindF 3 run) ++ [r]) (by simp)).trans ?_
      have e : (((out ++ kindF 2 run) ++ kindF 3 run) ++ [r]) ++ ([] ++ l) = out ++ ((kindF 2 run ++ kindF 3 run) ++ (r :: l)) := by simp
      rw [e]
      exact ((kind_perm run h).append_right _).append_left _
theorem srt_perm (L : List Row) : (sortL L [] []).Perm L := by
  have := sort_perm L [] [] (by simp)
  simpa using this
def RQ (a b : List Row) : Prop := ∀ e o c, rowsF a e o c = rowsF b e o c
theorem RQ.trans {a b c : List Row} (h : RQ a b) (g : RQ b c) : RQ a c := fun e o d => (h e o d).trans (g e o d)
theorem RQ.cons {a b : List Row} (r : Row) (h : RQ a b) : RQ (r :: a) (r :: b) := by
  intro e o c
  rw [rowsF, rowsF]
  split
  · rfl
  · exact h _ _ _
theorem RQ.app {a b : List Row} (h : RQ a b) : ∀ p : List Row, RQ (p ++ a) (p ++ b)
  | [] => h
  | r :: p => RQ.cons r (RQ.app h p)
theorem RQ.swap {a b : Row} (ha : a.k = 3) (hb : b.k = 2) (l : List Row) : RQ (a :: b :: l) (b :: a :: l) := by
  intro e o c
  simp only [rowsF, badR, ha, hb, isOld, isNew]
  generalize lineB a.t = la
  generalize lineB b.t = lb
  generalize K4 a.t = wa
  generalize K4 b.t = wb
  cases la <;> cases lb <;> cases wa <;> cases wb <;> cases e <;> cases o <;> simp
theorem rows_past {x : Row} (hx : x.k = 3) : ∀ (A rest : List Row), (∀ y ∈ A, y.k = 2) → RQ (x :: (A ++ rest)) (A ++ (x :: rest))
  | [], _, _ => fun _ _ _ => rfl
  | y :: A, rest, h => (RQ.swap hx (h y (by simp)) (A ++ rest)).trans (RQ.cons y (rows_past hx A rest (fun z hz => h z (List.mem_cons_of_mem _ hz))))
theorem rows_run : ∀ run rest : List Row, (∀ x ∈ run, x.k = 2 ∨ x.k = 3) → RQ (run ++ rest) (kindF 2 run ++ (kindF 3 run ++ rest))
  | [], _, _ => fun _ _ _ => rfl
  | x :: l, rest, h => by
    have ih := rows_run l rest (fun y hy => h y (List.mem_cons_of_mem _ hy))
    have hk2 : ∀ y ∈ kindF 2 l, y.k = 2 := kindF_k
    rcases h x (by simp) with e | e
    · have e2 : kindF 2 (x :: l) = x :: kindF 2 l := by unfold kindF; rw [List.filter_cons, if_pos (by simpa using e)]
      have e3 : kindF 3 (x :: l) = kindF 3 l := by unfold kindF; rw [List.filter_cons, if_neg (by simp [e])]
      rw [e2, e3]
      exact RQ.cons x ih
    · have e2 : kindF 2 (x :: l) = kindF 2 l := by unfold kindF; rw [List.filter_cons, if_neg (by simp [e])]
      have e3 : kindF 3 (x :: l) = x :: kindF 3 l := by unfold kindF; rw [List.filter_cons, if_pos (by simpa using e)]
      rw [e2, e3]
      exact (RQ.cons x ih).trans (rows_past e _ _ hk2)
theorem rows_sort : ∀ (l run : List Row), (∀ x ∈ run, x.k = 2 ∨ x.k = 3) → RQ (run ++ l) (sortL l run [])
  | [], run, h => by
    have := rows_run run [] h
    rw [sortL, List.nil_append]
    simpa using this
  | r :: l, run, h => by
    rw [sortL]
    split
    · rename_i e
      have := rows_sort l (run ++ [r]) (fun x hx => by
        rcases List.mem_append.1 hx with hx | hx
        · exact h x hx
        · rw [List.mem_singleton] at hx; rw [hx]; exact e)
      simpa using this
    · rw [sort_out]
      have e : (((([] : List Row) ++ kindF 2 run) ++ kindF 3 run) ++ [r]) ++ sortL l [] [] = kindF 2 run ++ (kindF 3 run ++ (r :: sortL l [] [])) := by simp
      rw [e]
      refine (rows_run run (r :: l) h).trans (RQ.app (RQ.app (RQ.cons r ?_) _) _)
      exact rows_sort l [] (by simp)
theorem cntF_perm {f : Int → Bool} {a b : List Row} (h : a.Perm b) : ∀ n, cntF f a n = cntF f b n := by
  induction h with
  | nil => intro n; rfl
  | cons x _ ih => intro n; rw [cntF, cntF]; exact ih _
  | swap x y l =>
    intro n
    rw [cntF, cntF, cntF, cntF]
    cases f x.k <;> cases f y.k <;> rfl
  | trans _ _ i1 i2 => intro n; exact (i1 n).trans (i2 n)
theorem valid_srt (h : Hnk) : H0 (srtH h) = H0 h := by
  have hr := rows_sort h.rows [] (by simp)
  have hp := srt_perm h.rows
  unfold H0 srtH
  simp only
  rw [cntF_perm hp, cntF_perm hp, ← hr false false false]
  rfl
theorem HnkOK.srt {h : Hnk} (ok : HnkOK h) : HnkOK (srtH h) := by
  have hp := srt_perm h.rows
  exact ⟨by show (sortL h.rows [] []).length ≤ _; rw [hp.length_eq]; exact ok.rows, fun x hx => ok.text x (hp.mem_iff.1 hx), ok.head, ok.a, ok.b⟩
theorem pvBs_perm {a b : List PV} (h : a.Perm b) : pvBs a = pvBs b := by
  induction h with
  | nil => rfl
  | cons x _ ih => rw [pvBs, pvBs, ih]
  | swap x y l => rw [pvBs, pvBs, pvBs, pvBs]; omega
  | trans _ _ i1 i2 => exact i1.trans i2
theorem bulk_srt (h : Hnk) : pvB (hnkP (srtH h)) = pvB (hnkP h) := by
  have hp := pvBs_perm ((srt_perm h.rows).map rowP)
  unfold srtH
  simp only [pvB, pvBs]
  rw [hp]
theorem bulks_srt : ∀ l : List Hnk, pvBs ((l.map srtH).map hnkP) = pvBs (l.map hnkP)
  | [] => rfl
  | h :: l => by
    have ih := bulks_srt l
    rw [List.map_cons, List.map_cons, List.map_cons, pvBs, pvBs, ih, bulk_srt]
theorem PrOK.srt {p s p' s' : Ln} {l : List Hnk} (o : PrOK p s p' s' l) : PrOK p s p' s' (l.map srtH) :=
  ⟨o.p, o.s, o.p', o.s', by rw [List.length_map]; exact o.len, fun h hh => by
    obtain ⟨g, hg, rfl⟩ := List.mem_map.1 hh
    exact (o.ok g hg).srt, by rw [bulks_srt]; exact o.bulk⟩
theorem all_srt : ∀ l : List Hnk, (l.map srtH).all H0 = l.all H0
  | [] => rfl
  | h :: l => by rw [List.map_cons, List.all_cons, List.all_cons, valid_srt, all_srt l]
theorem inOrd_srt : ∀ l : List Hnk, inOrd (l.map srtH) = inOrd l
  | [] => rfl
  | [_] => rfl
  | g :: h :: l => by
    have ih := inOrd_srt (h :: l)
    rw [List.map_cons, List.map_cons] at *
    rw [inOrd, inOrd, ih]
    rfl
theorem fault_srt (p s p' s' : Ln) (l : List Hnk) : O8 p s p' s' (l.map srtH) = O8 p s p' s' l := by
  unfold O8
  rw [all_srt, inOrd_srt]
theorem runN_app {rest : List Row} (hr : rest = [] ∨ ∃ r q, rest = r :: q ∧ r.k = 1) : ∀ run : List Row, (∀ x ∈ run, x.k ≠ 1) → runN (run ++ rest) = run.length
  | [], _ => by
    rcases hr with rfl | ⟨r, q, rfl, h⟩
    · rfl
    · show runN (r :: q) = 0
      unfold runN; rw [if_pos h]
  | x :: l, h => by
    have ih := runN_app hr l (fun y hy => h y (List.mem_cons_of_mem _ hy))
    rw [List.cons_append, runN, if_neg (h x (by simp)), ih]
    rfl
theorem marks_run {run rest : List Row} (hr : rest = [] ∨ ∃ r q, rest = r :: q ∧ r.k = 1) (h1 : ∀ x ∈ run, x.k ≠ 1) {n : Nat} (hn : (run ++ rest).length ≤ n) : ∃ n', rest.length ≤ n' ∧ H1 n (run ++ rest) = run.map (fun x => markR (!(kindF 2 run).isEmpty) (!(kindF 3 run).isEmpty) x.k) ++ H1 n' rest := by
  obtain ⟨n', a, b⟩ := run_marks n (run ++ rest) hn
  have hR := runN_app hr run h1
  have k2 := has_kind (k := 2) (by decide) (run ++ rest)
  have k3 := has_kind (k := 3) (by decide) (run ++ rest)
  rw [hR] at a b k2 k3
  rw [List.take_left] at b k2 k3
  rw [List.drop_left] at a b
  rw [k2, k3] at b
  exact ⟨n', a, b⟩
theorem split_run (L : List Row) : ∃ run rest, L = run ++ rest ∧ (∀ x ∈ run, x.k ≠ 1) ∧ (rest = [] ∨ ∃ r q, rest = r :: q ∧ r.k = 1) := by
  refine ⟨L.take (runN L), L.drop (runN L), (List.take_append_drop _ _).symm, fun x hx => ?_, runN_stop L⟩
  obtain ⟨i, hi, rfl⟩ := List.mem_iff_getElem.1 hx
  rw [List.length_take] at hi
  rw [List.getElem_take]
  exact runN_no L i _ (by omega) (List.getElem?_eq_getElem (by omega))
theorem partM_sort {kd : Int} (hkd : kd = 2 ∨ kd = 3) : ∀ (N : Nat) (L : List Row), L.length ≤ N → (∀ x ∈ L, x.k = 1 ∨ x.k = 2 ∨ x.k = 3) → ∀ n m, L.length ≤ n → (sortL L [] []).length ≤ m → partM kd (sortL L [] []) (H1 m (sortL L [] [])) = partM kd L (H1 n L)
  | N, L, hN, hk, n, m, hn, hm => by
    obtain ⟨run, rest, rfl, h1, hr⟩ := split_run L
    have hrk : ∀ x ∈ run, x.k = 2 ∨ x.k = 3 := fun x hx => (hk x (List.mem_append_left _ hx)).resolve_left (h1 x hx)
    have h2 : ∀ x ∈ kindF 2 run, x.k = 2 := kindF_k
    have h3 : ∀ x ∈ kindF 3 run, x.k = 3 := kindF_k
    obtain ⟨R', hR'⟩ : ∃ R', R' = kindF 2 run ++ kindF 3 run := ⟨_, rfl⟩
    have h1' : ∀ x ∈ R', x.k ≠ 1 := fun x hx => by
      rw [hR'] at hx
      rcases List.mem_append.1 hx with hx | hx
      · rw [h2 x hx]; decide
      · rw [h3 x hx]; decide
    have k2 : kindF 2 R' = kindF 2 run := by
      rw [hR', kindF_app, kindF_same h2, kindF_none (k := 2) (l := kindF 3 run) (fun x hx => by rw [h3 x hx]; decide), List.append_nil]
    have k3 : kindF 3 R' = kindF 3 run := by
      rw [hR', kindF_app, kindF_same h3, kindF_none (k := 3) (l := kindF 2 run) (fun x hx => by rw [h2 x hx]; decide), List.nil_append]
    have kk : kindF kd R' = kindF kd run := by
      rcases hkd with rfl | rfl
      · exact k2
      · exact k3
    have hs : ∃ rest', sortL (run ++ rest) [] [] = R' ++ rest' ∧ (rest' = [] ∨ ∃ r q, rest' = r :: q ∧ r.k = 1) ∧ ((rest = [] ∧ rest' = []) ∨ ∃ c q, rest = c :: q ∧ c.k = 1 ∧ rest' = c :: sortL q [] []) := by
      rcases hr with rfl | ⟨c, q, rfl, hc⟩
      · refine ⟨[], ?_, .inl rfl, .inl ⟨rfl, rfl⟩⟩
        have := sort_run run [] [] [] hrk
        rw [this, hR']
        simp [sortL]
      · refine ⟨c :: sortL q [] [], ?_, .inr ⟨_, _, rfl, hc⟩, .inr ⟨c, q, rfl, hc, rfl⟩⟩
        have := sort_run run (c :: q) [] [] hrk
        rw [this, sortL, if_neg (by rw [hc]; decide), sort_out, hR']
        simp
    obtain ⟨rest', e', hr', hcase⟩ := hs
    rw [e'] at hm ⊢
    obtain ⟨n', a1, a2⟩ := marks_run hr h1 hn
    obtain ⟨m', b1, b2⟩ := marks_run hr' h1' hm
    rw [a2, b2, partM_app _ _ (List.length_map _).symm, partM_app _ _ (List.length_map _).symm, partM_run _ h1, partM_run _ h1', kk, k2, k3]
    congr 1
    rcases hcase with ⟨rfl, rfl⟩ | ⟨c, q, rfl, hc, rfl⟩
    · cases n' <;> cases m' <;> rfl
    · cases N with
      | zero => simp at hN
      | succ N =>
        cases n' with
        | zero => simp at a1
        | succ n' =>
          cases m' with
          | zero => simp at b1
          | succ m' =>
            rw [H1, if_pos hc, H1, if_pos hc, partM, partM]
            congr 1
            refine partM_sort hkd N q ?_ (fun x hx => hk x (by simp [hx])) n' m' (by simpa using a1) (by simpa using b1)
            simp only [List.length_append, List.length_cons] at hN
            omega
theorem anyK_sort (kd : Int) (L : List Row) : anyK kd (sortL L [] []) = anyK kd L := by
  unfold anyK
  exact (srt_perm L).any_eq
theorem partG_sort {kd : Int} (hkd : kd = 2 ∨ kd = 3) {L : List Row} (hk : ∀ x ∈ L, x.k = 1 ∨ x.k = 2 ∨ x.k = 3) : partG kd (sortL L [] []) (H1 (sortL L [] []).length (sortL L [] [])) = partG kd L (H1 L.length L) := by
  unfold partG
  rw [anyK_sort, partM_sort hkd L.length L (Nat.le_refl _) hk L.length _ (Nat.le_refl _) (Nat.le_refl _)]
theorem chunk_srt {h : Hnk} (hk : ∀ x ∈ h.rows, x.k = 1 ∨ x.k = 2 ∨ x.k = 3) : X4 (srtH h) = X4 h := by
  have e : U2 (srtH h) = U2 h := by
    have e2 := partG_sort (kd := 2) (.inl rfl) hk
    have e3 := partG_sort (kd := 3) (.inr rfl) hk
    unfold U2 srtH
    simp only
    rw [e2, e3]
    rfl
  rw [← cLines_flat, ← cLines_flat, e]
theorem cprint_srt {p s p' s' : Ln} {l : List Hnk} (hv : l.all H0 = true) : Q7 p s p' s' (l.map srtH) = Q7 p s p' s' l := by
  unfold Q7
  congr 1
  induction l with
  | nil => rfl
  | cons h l ih =>
    rw [List.all_cons, Bool.and_eq_true] at hv
    have v := hv.1
    simp only [H0, Bool.and_eq_true] at v
    rw [List.map_cons, List.flatMap_cons, List.flatMap_cons, ih hv.2, chunk_srt (rowsF_kinds _ _ _ _ v.1.1.1.1.1.1)]
end Go.Sv
end
section
namespace Go.Sv
open Go
theorem cntK_old : ∀ (l : List Row) (n : Int), (∀ x ∈ l, x.k = 1 ∨ x.k = 2 ∨ x.k = 3) → 0 ≤ n → n + l.length ≤ 4611686018427387904 → cntK 3 l n = cntF isOld l n
  | [], n, _, _, _ => rfl
  | r :: l, n, hk, h0, h1 => by
    simp only [List.length_cons] at h1
    have e : (if r.k = 3 then n else n + 1) = (if isOld r.k = true then n + 1 else n) := by
      unfold isOld
      rcases hk r (by simp) with h | h | h <;> simp [h]
    rw [cntK, cntF, G3 (by omega) (by omega), e]
    exact cntK_old l _ (fun x hx => hk x (List.mem_cons_of_mem _ hx)) (by split <;> omega) (by split <;> omega)
theorem cntK_new : ∀ (l : List Row) (n : Int), (∀ x ∈ l, x.k = 1 ∨ x.k = 2 ∨ x.k = 3) → 0 ≤ n → n + l.length ≤ 4611686018427387904 → cntK 2 l n = cntF isNew l n
  | [], n, _, _, _ => rfl
  | r :: l, n, hk, h0, h1 => by
    simp only [List.length_cons] at h1
    have e : (if r.k = 2 then n else n + 1) = (if isNew r.k = true then n + 1 else n) := by
      unfold isNew
      rcases hk r (by simp) with h | h | h <;> simp [h]
    rw [cntK, cntF, G3 (by omega) (by omega), e]
    exact cntK_new l _ (fun x hx => hk x (List.mem_cons_of_mem _ hx)) (by split <;> omega) (by split <;> omega)
theorem partM_cnt : ∀ (l : List Row) (m : List UInt8) (n : Int), l.length = m.length → (∀ x ∈ l, x.k = 1 ∨ x.k = 2 ∨ x.k = 3) → 0 ≤ n → n + l.length ≤ 4611686018427387904 → n + (partM 3 l m).length = cntF isNew l n
  | [], [], n, _, _, _, _ => by simp [partM, cntF]
  | r :: l, c :: m, n, hl, hk, h0, h1 => by
    simp only [List.length_cons] at h1
    have e : (if isNew r.k = true then n + 1 else n) = n + ((if r.k = 1 ∨ r.k = 3 then [(⟨c, r.t⟩ : Mkd)] else []).length : Nat) := by
      unfold isNew
      rcases hk r (by simp) with h | h | h <;> simp [h]
    rw [partM, cntF, G3 (by omega) (by omega), List.length_append]
    have hle : ((if r.k = 1 ∨ r.k = 3 then [(⟨c, r.t⟩ : Mkd)] else []).length : Nat) ≤ 1 := by split <;> simp
    have ih := partM_cnt l m (n + ((if r.k = 1 ∨ r.k = 3 then [(⟨c, r.t⟩ : Mkd)] else []).length : Nat)) (by simpa using hl) (fun x hx => hk x (List.mem_cons_of_mem _ hx)) (by omega) (by omega)
    rw [e, ← ih]
    omega
  | [], _ :: _, _, h, _, _, _ => by simp at h
  | _ :: _, [], _, h, _, _, _ => by simp at h
theorem mk_len : ∀ l : List Mkd, l.length ≤ (l.flatMap Q8).length
  | [] => Nat.le_refl _
  | x :: l => by
    have ih := mk_len l
    have : 1 ≤ (Q8 x).length := by unfold Q8; split <;> simp
    rw [List.flatMap_cons, List.length_append, List.length_cons]; omega
theorem takes_back {a n : Int} (h : 0 ≤ n) : S3 ⟨a, if n < 2 then 1 else n, decide (2 ≤ n)⟩ n = true := by
  unfold S3
  by_cases g : n < 2
  · have : n = 0 ∨ n = 1 := by omega
    rcases this with rfl | rfl <;> rfl
  · simp [g]
structure HB (h : Hnk) : Prop where
  ks : ∀ x ∈ h.rows, x.k = 1 ∨ x.k = 2 ∨ x.k = 3
  ts : ∀ x ∈ h.rows, lineB x.t = true
  any : anyK 2 h.rows = true ∨ anyK 3 h.rows = true
  len : h.rows.length ≤ 1048576
  a0 : 0 ≤ h.a
  a1 : h.a ≤ 2147483647
  b0 : 0 ≤ h.b
  b1 : h.b ≤ 2147483647
  n0 : 0 ≤ h.n
  m0 : 0 ≤ h.m
  an : h.a + h.n - 1 ≤ 2147483647
  bm : h.b + h.m - 1 ≤ 2147483647
  n : h.n = cntF isOld h.rows 0
  m : h.m = cntF isNew h.rows 0
  hd : ∀ c ∈ h.head, c ≠ 10
theorem hb_of {h : Hnk} (hv : H0 h = true) (ok : HnkOK h) : HB h := by
  obtain ⟨v1, f1, f2, f3, f4, f5, f6⟩ := validF_facts hv (Nat.le_trans ok.rows (by decide))
  have okr := ok.rows
  simp only [H0, Bool.and_eq_true, beq_iff_eq, Bool.not_eq_true'] at hv
  obtain ⟨⟨⟨⟨⟨⟨_, v2⟩, v3⟩, v4⟩, v5⟩, v6⟩, v7⟩ := hv
  have c1 := cntF_le isOld h.rows 0 (by omega) (by omega)
  have c2 := cntF_le isNew h.rows 0 (by omega) (by omega)
  simp only [startB, Bool.and_eq_true, decide_eq_true_eq] at v4 v5
  rw [← v2, G3 (by omega) (by omega)] at v4
  rw [← v3, G3 (by omega) (by omega)] at v5
  refine ⟨rowsF_kinds _ _ _ _ v1, rowsF_lines _ _ _ _ v1, ?_, okr, f5, by omega, f6, by omega, f1, f3, by omega, by omega, v2, v3, fun c hc e => ?_⟩
  · exact ((rowsF_any _ _ _ _ v1).2).resolve_left (by decide)
  · subst e
    have : h.head.contains 10 = true := by simpa using hc
    rw [v7] at this; cases this
theorem now_chead (h : Hnk) (r : List Ln) : (nowF ((Q6 h ++ [10]) :: r)).1 = Q6 h := bareB_end _
theorem chead_head (h : Hnk) : headC (Q6 h) = true := by
  unfold headC Q6 cutF
  by_cases e : h.head = []
  · rw [if_pos e]; rfl
  · rw [if_neg e]
    have : Lib.hasPrefix (starsF ++ ([32] ++ h.head)) stars = true := by
      unfold Lib.hasPrefix
      rw [List.isPrefixOf_iff_prefix]
      exact List.prefix_append _ _
    rw [if_pos this]
    rfl
theorem chead_back (h : Hnk) : Lib.trimPrefix ((Q6 h).drop 15) [32] = h.head := by
  unfold Q6
  by_cases e : h.head = []
  · rw [if_pos e, e]; rfl
  · rw [if_neg e]
    have : (starsF ++ ([32] ++ h.head)).drop 15 = [32] ++ h.head := rfl
    rw [this]
    simp [Lib.trimPrefix, Lib.hasPrefix]
theorem no_row (kind : UInt8) (h : Hnk) : ¬ Lib.hasPrefix (bareB (Q6 h ++ [10])) [92] = true ∧ rowC kind (Q6 h ++ [10]) = none := by
  unfold rowC
  rw [bareB_end]
  unfold Q6
  split
  · exact ⟨by decide, rfl⟩
  · exact ⟨by simp [Lib.hasPrefix, starsF], rfl⟩
theorem no_row2 (kind : UInt8) (a n : Int) : ¬ Lib.hasPrefix (bareB ([45, 45, 45, 32] ++ (spanC a n ++ ([32, 45, 45, 45, 45] ++ [10])))) [92] = true ∧ rowC kind ([45, 45, 45, 32] ++ (spanC a n ++ ([32, 45, 45, 45, 45] ++ [10]))) = none := by
  have e : [45, 45, 45, 32] ++ (spanC a n ++ ([32, 45, 45, 45, 45] ++ [10])) = ([45, 45, 45, 32] ++ (spanC a n ++ [32, 45, 45, 45, 45])) ++ [10] := by simp
  unfold rowC
  rw [e, bareB_end]
  exact ⟨by simp [Lib.hasPrefix], rfl⟩
theorem drop_succ {ls r : List Ln} {x : Ln} {k : Nat} (h : ls.drop k = x :: r) : ls.drop (k + 1) = r := by
  have := List.drop_drop (l := ls) (i := 1) (j := k)
  rw [h] at this
  rw [← this]; rfl
theorem hunk_back12 {h : Hnk} (hv : H0 h = true) (ok : HnkOK h) {ls X : List Ln} {first : Nat} (hd : ls.drop first = U2 h ++ X) (hX : X = [] ∨ ∃ (g : Hnk) (Y : List Ln), X = (Q6 g ++ [10]) :: Y) {line err : Int} {o : Option (Hnk × Nat)} (H : HunkC ls first line err o) :
    line = first ∧ err = 0 ∧ ∃ at' : Nat, o = some (srtH h, at') ∧ ls.drop at' = X ∧ at' ≤ ls.length := by
  have b := hb_of hv ok
  have okr := ok.rows
  have hml := (marks_ok h.rows).1
  have hm2 := partG_marks (kd := 2) (kind := 45) (.inl ⟨rfl, rfl⟩) h.rows
  have hm3 := partG_marks (kd := 3) (kind := 43) (.inr ⟨rfl, rfl⟩) h.rows
  have htog := togF_back h.rows b.ks b.any
  have h3len : ((partG 3 h.rows (H1 h.rows.length h.rows)).length : Int) ≤ (if h.m < 2 then 1 else h.m) := by
    have := partM_cnt h.rows (H1 h.rows.length h.rows) 0 hml b.ks (by omega) (by omega)
    have hb := b.m
    have hle : ((partG 3 h.rows (H1 h.rows.length h.rows)).length : Int) ≤ h.m := by
      unfold partG
      split
      · omega
      · have := b.m0; simpa using this
    split <;> omega
  unfold U2 at hd
  generalize partG 2 h.rows (H1 h.rows.length h.rows) = M2 at *
  generalize partG 3 h.rows (H1 h.rows.length h.rows) = M3 at *
  have hnow : (nowF (ls.drop first)).1 = Q6 h := by rw [hd]; exact now_chead h _
  obtain ⟨X2, hX2⟩ : ∃ X2, X2 = ([45, 45, 45, 32] ++ (spanC h.b h.m ++ ([32, 45, 45, 45, 45] ++ [10]))) :: (M3.flatMap Q8 ++ X) := ⟨_, rfl⟩
  have hd' : ls.drop first = (Q6 h ++ [10]) :: ([42, 42, 42, 32] ++ (spanC h.a h.n ++ ([32, 42, 42, 42, 42] ++ [10]))) :: (M2.flatMap Q8 ++ X2) := by
    rw [hd, hX2]
    simp only [List.cons_append, List.append_assoc]
  have d1 := drop_succ hd'
  have d2 : ls.drop (first + 2) = _ := drop_succ d1
  have hs1 : spanR [42, 42, 42, 32] [32, 42, 42, 42, 42] (ls.drop (first + 1)) = some ⟨h.a, if h.n < 2 then 1 else h.n, decide (2 ≤ h.n)⟩ := by
    rw [d1]; exact spanR_back b.a0 b.a1 b.n0 b.an
  have hlen2 : M2.length ≤ ls.length := by
    have := congrArg List.length d2
    rw [List.length_drop, List.length_append] at this
    have := mk_len M2
    omega
  have hp2 : partC 45 ls.length (ls.drop (first + 2)) [] false = (M2, X2) := by
    rw [d2]
    have := partC_back (kind := 45) (most := (ls.length : Int)) (X := X2) (by decide) (by rw [hX2]; intro l hl; simp only [List.head?_cons, Option.mem_some_iff] at hl; subst hl; exact no_row2 45 h.b h.m) M2 [] false (fun x hx => (hm2 x hx).1) (by simp only [List.length_nil]; omega)
    rw [this, List.nil_append]
  have hs3 : spanR [45, 45, 45, 32] [32, 45, 45, 45, 45] X2 = some ⟨h.b, if h.m < 2 then 1 else h.m, decide (2 ≤ h.m)⟩ := by
    rw [hX2]; exact spanR_back b.b0 b.b1 b.m0 b.bm
  have hp3 : ∀ at2 : Nat, ls.drop at2 = X2 → partC 43 (if h.m < 2 then 1 else h.m) (ls.drop (at2 + 1)) [] false = (M3, X) := by
    intro at2 e
    rw [hX2] at e
    rw [drop_succ e]
    have := partC_back (kind := 43) (most := if h.m < 2 then 1 else h.m) (X := X) (by decide) (by
      intro l hl
      rcases hX with rfl | ⟨g, Y, rfl⟩
      · simp at hl
      · simp only [List.head?_cons, Option.mem_some_iff] at hl; subst hl; exact no_row 43 g) M3 [] false (fun x hx => (hm3 x hx).1) (by simp only [List.length_nil]; omega)
    rw [this, List.nil_append]
  cases H with
  | noOld h1 => rw [hs1] at h1; cases h1
  | noNew h1 h2 hle h3 =>
    rw [hp2] at h2
    simp only at h2
    rw [h2, hs3] at h3; cases h3
  | noTog h1 h2 hle h3 h4 =>
    rw [hp2] at h2
    simp only at h2
    rw [h2, hs3] at h3
    injection h3 with h3
    subst h3
    rw [hp2, hp3 _ h2, htog] at h4
    cases h4
  | tog h1 h2 hle h3 h4 h5 hle3 head hh =>
    rw [hp2] at h2
    simp only at h2
    rw [h2, hs3] at h3
    injection h3 with h3
    subst h3
    rw [hs1] at h1
    injection h1 with h1
    subst h1
    rw [hp3 _ h2] at h4 h5
    rw [hp2, htog] at h4
    injection h4 with h4
    subst h4
    rw [hnow, chead_back] at hh
    subst hh
    simp only at h5
    have hp := srt_perm h.rows
    have hk' : ∀ x ∈ sortL h.rows [] [], x.k = 1 ∨ x.k = 2 ∨ x.k = 3 := fun x hx => b.ks x (hp.mem_iff.1 hx)
    have c3 : cntK 3 (sortL h.rows [] []) 0 = h.n := by
      rw [cntK_old _ _ hk' (by omega) (by rw [hp.length_eq]; omega), cntF_perm hp, b.n]
    have c2 : cntK 2 (sortL h.rows [] []) 0 = h.m := by
      rw [cntK_new _ _ hk' (by omega) (by rw [hp.length_eq]; omega), cntF_perm hp, b.m]
    have hE : ∀ (x y : Rng), x.at_ = h.a → y.at_ = h.b → hunkE h.head x y (sortL h.rows [] []) = srtH h := by
      intro x y e1 e2
      unfold hunkE srtH
      rw [c3, c2, e1, e2]
    rw [hE _ _ rfl rfl, c3, c2, takes_back b.n0, takes_back b.m0, valid_srt, hv]
    exact ⟨rfl, rfl, _, rfl, h5, hle3⟩
theorem behind_ord {g h : Hnk} (h1 : 0 ≤ g.n) (h2 : 0 ≤ g.m) (h3 : 0 ≤ h.n) (h4 : 0 ≤ h.m) : U8 g h = ordB g h := by
  have e : ∀ a n : Int, 0 ≤ n → aheadI a n = placeI a n := by
    intro a n hn
    unfold aheadI placeI
    by_cases g : n = 0
    · rw [if_pos g, if_neg (by omega)]
    · rw [if_neg g, if_pos (by omega)]
  unfold U8 ordB
  rw [e _ _ h1, e _ _ h2, e _ _ h3, e _ _ h4]
theorem read_back {ls : List Ln} : ∀ (l acc : List Hnk) (at_ : Nat), (∀ h ∈ l, H0 h = true ∧ HnkOK h) → inOrd l = true → (∀ g, acc.getLast? = some g → 0 ≤ g.n ∧ 0 ≤ g.m ∧ ∀ h, l.head? = some h → ordB g h = true) → ls.drop at_ = l.flatMap U2 → acc ++ l ≠ [] → ∀ {line err : Int} {o : Option (List Hnk × Nat)}, ReadC ls at_ acc line err o →
    line = 0 ∧ err = 0 ∧ ∃ at' : Nat, o = some (acc ++ l.map srtH, at') ∧ ls.length ≤ at'
  | [], acc, at_, _, _, _, hd, hne, line, err, o, H => by
    rw [List.flatMap_nil] at hd
    have hlen : ls.length ≤ at_ := by
      have := congrArg List.length hd
      rw [List.length_drop, List.length_nil] at this
      omega
    have hh : headC (nowF (ls.drop at_)).1 = false := by rw [hd]; rfl
    cases H with
    | stop h hn => exact ⟨rfl, rfl, at_, by simp, hlen⟩
    | none h => exact absurd rfl hne
    | bad h => rw [hh] at h; cases h
    | order h => rw [hh] at h; cases h
    | step h => rw [hh] at h; cases h
  | h :: l, acc, at_, hok, ho, hg, hd, hne, line, err, o, H => by
    obtain ⟨hv, ok⟩ := hok h (by simp)
    have b := hb_of hv ok
    rw [List.flatMap_cons] at hd
    have hh : headC (nowF (ls.drop at_)).1 = true := by
      rw [hd]
      unfold U2
      rw [List.cons_append, now_chead]
      exact chead_head h
    have hX : l.flatMap U2 = [] ∨ ∃ (g : Hnk) (Y : List Ln), l.flatMap U2 = (Q6 g ++ [10]) :: Y := by
      cases l with
      | nil => exact .inl rfl
      | cons g l => exact .inr ⟨g, _, by rw [List.flatMap_cons]; unfold U2; rw [List.cons_append]⟩
    have hbk := fun {line err : Int} {o : Option (Hnk × Nat)} (G : HunkC ls at_ line err o) => hunk_back12 hv ok hd hX G
    cases H with
    | stop h hn => rw [hh] at h; cases h
    | none h => rw [hh] at h; cases h
    | bad _ G =>
      obtain ⟨_, _, _, e, _⟩ := hbk G
      cases e
    | order _ G hl hb =>
      obtain ⟨_, _, at', e, _⟩ := hbk G
      injection e with e
      injection e with e1 e2
      subst e1
      obtain ⟨g1, g2, g3⟩ := hg _ hl
      have : U8 _ (srtH h) = ordB _ h := behind_ord g1 g2 (h := srtH h) b.n0 b.m0
      rw [this, g3 h rfl] at hb
      cases hb
    | step _ G hl hr =>
      obtain ⟨_, _, at2, e, e4, e5⟩ := hbk G
      injection e with e
      injection e with e1 e2
      subst e1
      subst e2
      have hin : inOrd l = true ∧ ∀ h', l.head? = some h' → ordB h h' = true := by
        cases l with
        | nil => exact ⟨rfl, fun h' e => by simp at e⟩
        | cons g l =>
          rw [inOrd, Bool.and_eq_true] at ho
          exact ⟨ho.2, fun h' e => by simp at e; subst e; exact ho.1⟩
      obtain ⟨i1, i2, at', i3, i4⟩ := read_back l (acc ++ [srtH h]) _ (fun x hx => hok x (List.mem_cons_of_mem _ hx)) hin.1 (fun g eg => by
        rw [List.getLast?_append] at eg
        simp at eg
        subst eg
        exact ⟨b.n0, b.m0, fun h' e => hin.2 h' e⟩) e4 (by simp) hr
      exact ⟨i1, i2, at', by rw [i3]; simp, i4⟩
abbrev goodB (p s p' s' : Ln) (hs : List Hnk) : AV := .tup [.pv (nmP p s), .pv (nmP p' s'), .pv (.sl (hs.map hnkP)), .pv (.str []), .pv (.int .i64 0), .pv (.raw .nilIface)]
theorem chunks_flat : ∀ l : List Hnk, (l.flatMap U2).flatten = l.flatMap X4
  | [] => rfl
  | h :: l => by rw [List.flatMap_cons, List.flatten_append, cLines_flat, chunks_flat l, List.flatMap_cons]
theorem out_back {p s p' s' : Ln} {l : List Hnk} (h1 : L2 p s = true) (h2 : L2 p' s' = true) (hok : ∀ h ∈ l, H0 h = true ∧ HnkOK h) (ho : inOrd l = true) (hne : l ≠ []) (hl : (Q7 p s p' s' l).length ≤ 4194304) {w : AV} (H : OutC (Q7 p s p' s' l) w) : w = goodB p s p' s' (l.map srtH) := by
  obtain ⟨L, hL⟩ : ∃ L, L = ([42, 42, 42, 32] ++ (J5 p s ++ [10])) :: ([45, 45, 45, 32] ++ (J5 p' s' ++ [10])) :: l.flatMap U2 := ⟨_, rfl⟩
  have e : Q7 p s p' s' l = L.flatten := by
    rw [hL, List.flatten_cons, List.flatten_cons, chunks_flat]
    unfold Q7 cnamesF
    simp
  have hwl : ∀ x ∈ L, wl x := by
    intro x hx
    rw [hL] at hx
    rcases List.mem_cons.1 hx with rfl | hx
    · exact ⟨N4 _ _ (by decide) (N4 _ _ (shown_no10 h1) rfl), by rw [K8 (by simp), K8 (by simp)]; rfl⟩
    rcases List.mem_cons.1 hx with rfl | hx
    · exact ⟨N4 _ _ (by decide) (N4 _ _ (shown_no10 h2) rfl), by rw [K8 (by simp), K8 (by simp)]; rfl⟩
    obtain ⟨h, hh, hx⟩ := List.mem_flatMap.1 hx
    have b := hb_of (hok h hh).1 (hok h hh).2
    exact cLines_wl b.hd b.a0 b.n0 b.b0 b.m0 b.ts x hx
  have hlin : P2 (Q7 p s p' s' l) = L := by
    unfold P2
    rw [e, split_lines L hwl]
    unfold wholeL
    cases hg : L.getLast? with
    | none => rfl
    | some x => simp only; rw [if_pos (hwl x (List.mem_of_getLast? hg)).2]
  have n1 : nameC [42, 42, 42, 32] L = some (p, s) := by rw [hL]; exact nameC_back h1
  have n2 : nameC [45, 45, 45, 32] (L.drop 1) = some (p', s') := by rw [hL]; exact nameC_back h2
  have hr := fun {line err : Int} {o : Option (List Hnk × Nat)} (G : ReadC L 2 [] line err o) => read_back l [] 2 hok ho (by simp) (by rw [hL]; rfl) (by simpa using hne) G
  generalize htx : Q7 p s p' s' l = text at *
  cases H with
  | big h => omega
  | name1 h g1 => rw [hlin, n1] at g1; cases g1
  | name2 h g1 g2 => rw [hlin, n2] at g2; cases g2
  | bad h g1 g2 G =>
    rw [hlin] at G
    obtain ⟨_, _, _, e, _⟩ := hr G
    cases e
  | good h g1 g2 G =>
    rw [hlin] at G g1 g2
    obtain ⟨_, _, at', e2, e3⟩ := hr G
    injection e2 with e2
    injection e2 with e4 e5
    subst e5
    rw [n1] at g1
    injection g1 with g1
    rw [n2] at g2
    injection g2 with g2
    subst g1
    subst g2
    subst e4
    rw [hlin, List.take_of_length_le e3, ← e]
    simp [goodA, goodB]
end Go.Sv
end
section
namespace Go.Sv
section
open Go Go.RowKit Go.Proofs
variable {w0 : Base} {σ : Store} {R : AV → Store → Prop}
open Go.Proofs.YtebgkjjbbnbnlaaGreatDoor in
theorem name_data {d : Nat} {q : PV} (h : hasT tabS (d + 2) 23 q) : ∃ p s, q = nmP p s := by
  obtain ⟨qs, rfl, g⟩ := hasT_struct tab23 ti23_td h
  obtain ⟨_, qs, rfl, h1, h⟩ := N6 g
  obtain ⟨_, qs, rfl, h2, h⟩ := N6 h
  obtain rfl := fields_nil h
  obtain ⟨p, rfl, _⟩ := hasT_str tab9 ti9_td h1
  obtain ⟨s, rfl, _⟩ := hasT_str tab9 ti9_td h2
  exact ⟨p, s, rfl⟩
end
end Go.Sv
end
