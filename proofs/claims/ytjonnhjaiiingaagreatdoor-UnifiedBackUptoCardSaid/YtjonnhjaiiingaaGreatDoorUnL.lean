/- A unified diff, read: as plain lists. What is printed is read as it was. -/
import Derived.Test.YtjonnhjaiiingaaGreatDoorUnK
set_option linter.unusedVariables false
set_option linter.unusedSimpArgs false
set_option maxRecDepth 100000
namespace Go.Sv
abbrev Ln := List UInt8
def rowOf : Ln → Option Row
  | [] => none
  | c :: t => if c = 32 then some ⟨1, t⟩ else if c = 10 then some ⟨1, [10]⟩ else if c = 45 then some ⟨2, t⟩ else if c = 43 then some ⟨3, t⟩ else none
def bareLast (l : List Row) : List Row := match l.getLast? with
  | none => l
  | some r => l.dropLast ++ [⟨r.k, bareB r.t⟩]
def incO (k n : Int) : Int := if k = 3 then n else n + 1
def incN (k m : Int) : Int := if k = 2 then m else m + 1
def rowsL (N M : Int) : List Ln → Int → Int → Bool → List Row → Option (List Row × List Ln)
  | [], n, m, _, acc => if n = N ∧ m = M then some (acc, []) else none
  | l :: ls, n, m, fr, acc =>
    if l.head? = some 92 then (if fr = true then rowsL N M ls n m false (bareLast acc) else none)
    else if n = N ∧ m = M then some (acc, l :: ls)
    else match rowOf l with
      | none => none
      | some r => if N < incO r.k n ∨ M < incN r.k m then none else rowsL N M ls (incO r.k n) (incN r.k m) true (acc ++ [r])
def ordL (ahead : List Hnk) (h : Hnk) : Bool := match ahead.getLast? with
  | none => true
  | some g => ordB g h
def hunkL (ahead : List Hnk) : List Ln → Option (Hnk × List Ln)
  | [] => none
  | l :: ls => if (firstF (bareB l)).2 = true then match rowsL (firstF (bareB l)).1.n (firstF (bareB l)).1.m ls 0 0 false [] with
      | none => none
      | some (rows, r) => if validF { (firstF (bareB l)).1 with rows := rows } = true then (if ordL ahead { (firstF (bareB l)).1 with rows := rows } = true then some ({ (firstF (bareB l)).1 with rows := rows }, r) else none) else none
    else none
def hunksL : Nat → List Hnk → List Ln → Option (List Hnk × List Ln)
  | 0, _, _ => none
  | _ + 1, acc, [] => some (acc, [])
  | f + 1, acc, l :: ls => if Lib.hasPrefix l [64, 64, 32, 45] = true then match hunkL acc (l :: ls) with
      | none => none
      | some (h, r) => hunksL f (acc ++ [h]) r
    else some (acc, l :: ls)
def nameF (mark l : Ln) : Option (Ln × Ln) := if Lib.hasPrefix l mark = true then match unqF ((bareB l).drop mark.length) with
    | none => none
    | some (p, []) => some (p, [])
    | some (p, c :: r) => if c = 9 then some (p, r) else none
  else none
structure Pars where
  a : Ln × Ln
  b : Ln × Ln
  l : List Hnk
  r : List Ln
def readL : List Ln → Option Pars
  | l1 :: l2 :: ls => match nameF [45, 45, 45, 32] l1, nameF [43, 43, 43, 32] l2 with
    | some a, some b => match hunksL (ls.length + 1) [] ls with
      | some (h :: hs, r) => some ⟨a, b, h :: hs, r⟩
      | _ => none
    | _, _ => none
  | _ => none
def wholeF (s : Ln) : Ln := if s ≠ [] ∧ wholeB s = false then s ++ [10] else s
def sizeF (s : Ln) (r : List Ln) : Nat := (wholeF s).length - r.flatten.length
def parseF (s : Ln) : Option (Pars × Ln) := if 4194304 < s.length then none else match readL (splitF (wholeF s)) with
  | none => none
  | some x => some (x, s.drop (min (sizeF s x.r) s.length))
def rowLines (r : Row) : List Ln := if wholeB r.t = true then [markF r.k ++ r.t] else [markF r.k ++ (r.t ++ [10]), missS]
def hunkLines (h : Hnk) : List Ln := (headF h ++ [10]) :: h.rows.flatMap rowLines
theorem rowLines_flat (r : Row) : (rowLines r).flatten = rowF1 r := by
  unfold rowLines rowF1 tailF
  split <;> simp
theorem rows_flat : ∀ l : List Row, (l.flatMap rowLines).flatten = l.flatMap rowF1
  | [] => rfl
  | r :: l => by rw [List.flatMap_cons, List.flatten_append, rowLines_flat, rows_flat l, List.flatMap_cons]
theorem hunkLines_flat (h : Hnk) : (hunkLines h).flatten = hunkF h := by
  unfold hunkLines hunkF
  rw [List.flatten_cons, rows_flat]
theorem hunks_flat : ∀ l : List Hnk, (l.flatMap hunkLines).flatten = l.flatMap hunkF
  | [] => rfl
  | h :: l => by rw [List.flatMap_cons, List.flatten_append, hunkLines_flat, hunks_flat l, List.flatMap_cons]
def wl (l : Ln) : Prop := lineB l = true ∧ wholeB l = true
theorem split_lines : ∀ L : List Ln, (∀ l ∈ L, wl l) → splitF L.flatten = L
  | [], _ => rfl
  | l :: L, h => by
    obtain ⟨h1, h2⟩ := h l (by simp)
    rw [List.flatten_cons, splitF_append l _ (by simp [endB, h2]), splitF_line l h1, split_lines L (fun x hx => h x (List.mem_cons_of_mem _ hx))]
    rfl
theorem lineB_front : ∀ (s t : Ln), (∀ c ∈ s, c ≠ 10) → lineB t = true → lineB (s ++ t) = true
  | [], t, _, h => h
  | c :: s, t, hs, h => by
    have ih := lineB_front s t (fun x hx => hs x (List.mem_cons_of_mem _ hx)) h
    have hne : s ++ t ≠ [] := by
      intro e
      rw [e] at ih; simp [lineB] at ih
    cases e : s ++ t with
    | nil => exact absurd e hne
    | cons d r =>
      rw [List.cons_append, e]
      rw [e] at ih
      simp only [lineB, Bool.and_eq_true] at ih ⊢
      refine ⟨by simp, ?_⟩
      rw [List.dropLast_cons_cons, List.contains_cons]
      have : ((10 : UInt8) == c) = false := beq_false_of_ne (Ne.symm (hs c (by simp)))
      rw [this, Bool.false_or]
      exact ih.2
theorem part_no10 {t : Ln} (h : lineB t = true) (hw : wholeB t = false) : ∀ c ∈ t, c ≠ 10 := by
  intro c hc e
  subst e
  rcases List.eq_nil_or_concat t with rfl | ⟨p, d, rfl⟩
  · simp at hc
  · rw [List.concat_eq_append] at *
    simp only [lineB, List.dropLast_concat, Bool.and_eq_true, Bool.not_eq_true'] at h
    have hd : (d == 10) = false := by simpa [wholeB] using hw
    rcases List.mem_append.1 hc with h1 | h1
    · have : p.contains 10 = true := by simpa using h1
      rw [h.2] at this; cases this
    · simp at h1; subst h1; simp at hd
theorem mark_no10 (k : Int) : ∀ c ∈ markF k, c ≠ 10 := by
  intro c hc
  unfold markF at hc
  split at hc
  · simp at hc; subst hc; decide
  · split at hc <;> (simp at hc; subst hc; decide)
theorem rowLines_wl {r : Row} (h : lineB r.t = true) : ∀ l ∈ rowLines r, wl l := by
  intro l hl
  have hne : r.t ≠ [] := fun e => by rw [e] at h; simp [lineB] at h
  unfold rowLines at hl
  split at hl
  · rename_i hw
    simp at hl; subst hl
    exact ⟨lineB_front _ _ (mark_no10 _) h, by rw [wholeB_append hne]; exact hw⟩
  · rename_i hw
    have hp := part_no10 h (by simpa using hw)
    rcases List.mem_cons.1 hl with rfl | hl
    · exact ⟨lineB_front _ _ (mark_no10 _) (lineB_front _ _ hp rfl), by rw [wholeB_append (by simp), wholeB_append (by simp)]; rfl⟩
    · simp at hl; subst hl; exact ⟨rfl, rfl⟩
theorem rowsF_lines : ∀ (l : List Row) (e o c : Bool), rowsF l e o c = true → ∀ r ∈ l, lineB r.t = true
  | [], _, _, _, _, r, h => by simp at h
  | x :: l, e, o, c, h, r, hr => by
    rw [rowsF] at h
    have hb : badR x e o = false := by
      cases hb : badR x e o with
      | false => rfl
      | true => rw [hb] at h; cases h
    rw [hb] at h
    rcases List.mem_cons.1 hr with rfl | hr
    · simp only [badR, Bool.or_eq_false_iff, Bool.not_eq_false'] at hb
      exact hb.1.1.2
    · exact rowsF_lines l _ _ _ (by simpa using h) r hr
theorem dec_no10 : ∀ (u : Nat), ∀ c ∈ Lib.decDigits u, c ≠ 10 := by
  intro u
  induction u using Nat.strongRecOn with
  | ind u ih =>
    intro c hc
    have key : ∀ d : Nat, d < 10 → UInt8.ofNat (48 + d) ≠ 10 := fun d hd e => by
      have := congrArg UInt8.toNat e
      rw [UInt8.toNat_ofNat_of_lt' (show 48 + d < 256 by omega)] at this
      have h10 : UInt8.toNat 10 = 10 := rfl
      omega
    rw [Lib.decDigits] at hc
    split at hc
    · rename_i h
      rw [List.mem_singleton] at hc; subst hc
      exact key u h
    · rcases List.mem_append.1 hc with h1 | h1
      · exact ih (u / 10) (by omega) c h1
      · rw [List.mem_singleton] at h1; subst h1
        exact key (u % 10) (by omega)
theorem span_no10 {a n : Int} (h0 : 0 ≤ a) (h2 : 0 ≤ n) : ∀ c ∈ spanF a n, c ≠ 10 := by
  intro c hc
  unfold spanF at hc
  rw [itoa_dec h0, itoa_dec h2] at hc
  split at hc
  · exact dec_no10 _ c hc
  · simp only [List.mem_append, List.mem_singleton] at hc
    rcases hc with (hc | rfl) | hc
    · exact dec_no10 _ c hc
    · decide
    · exact dec_no10 _ c hc
theorem head_no10 {h : Hnk} (hv : validF h = true) (ok : HnkOK h) : ∀ c ∈ headF h, c ≠ 10 := by
  obtain ⟨⟨a0, a1⟩, ⟨n0, n1⟩, ⟨b0, b1⟩, m0, m1⟩ := valid_small hv ok
  simp only [validF, Bool.and_eq_true, Bool.not_eq_true'] at hv
  have hh : ∀ c ∈ h.head, c ≠ 10 := fun c hc e => by
    subst e
    have : h.head.contains 10 = true := by simpa using hc
    rw [hv.2] at this; cases this
  intro c hc
  unfold headF at hc
  simp only [List.mem_append, List.mem_cons, List.not_mem_nil, or_false] at hc
  rcases hc with ((((hc | hc) | hc) | hc) | hc) | hc
  · rcases hc with rfl | rfl | rfl | rfl <;> decide
  · exact span_no10 a0 n0 c hc
  · rcases hc with rfl | rfl <;> decide
  · exact span_no10 b0 m0 c hc
  · rcases hc with rfl | rfl | rfl <;> decide
  · split at hc
    · simp at hc
    · simp only [List.mem_append, List.mem_singleton] at hc
      rcases hc with rfl | hc
      · decide
      · exact hh c hc
theorem hunkLines_wl {h : Hnk} (hv : validF h = true) (ok : HnkOK h) : ∀ l ∈ hunkLines h, wl l := by
  intro l hl
  rcases List.mem_cons.1 hl with rfl | hl
  · exact ⟨lineB_front _ _ (head_no10 hv ok) rfl, by rw [wholeB_append (by simp)]; rfl⟩
  · obtain ⟨r, hr, hl⟩ := List.mem_flatMap.1 hl
    obtain ⟨v1, _⟩ := validF_facts hv (Nat.le_trans ok.rows (by decide))
    exact rowLines_wl (rowsF_lines _ _ _ _ v1 r hr) l hl
def no92 (X : List Ln) : Prop := ∀ x ∈ X.head?, x.head? ≠ some 92
theorem bareB_end (t : Ln) : bareB (t ++ [10]) = t := by
  unfold bareB
  rw [wholeB_append (by simp), if_pos (by rfl), List.dropLast_concat]
theorem rows_back (N M : Int) (X : List Ln) (hX : no92 X) : ∀ (l : List Row) (n m : Int) (fr : Bool) (acc : List Row), (∀ r ∈ l, r.k = 1 ∨ r.k = 2 ∨ r.k = 3) → (∀ r ∈ l, lineB r.t = true) → 0 ≤ n → 0 ≤ m → n + l.length ≤ 9223372036854775807 → m + l.length ≤ 9223372036854775807 →
    cntF isOld l n = N → cntF isNew l m = M → rowsL N M (l.flatMap rowLines ++ X) n m fr acc = some (acc ++ l, X)
  | [], n, m, fr, acc, _, _, _, _, _, _, e1, e2 => by
    have h1 : n = N := e1
    have h2 : m = M := e2
    cases X with
    | nil => simp [rowsL, h1, h2]
    | cons x X =>
      have := hX x (by simp)
      simp [rowsL, h1, h2, this]
  | r :: l, n, m, fr, acc, hk, ht, hn, hm, bn, bm, e1, e2 => by
    have hkr := hk r (by simp)
    have htr := ht r (by simp)
    simp only [List.length_cons] at bn bm
    have wn : IntKind.wrap .i64 (n + 1) = n + 1 := wrap_i64 (by omega) (by omega)
    have wm : IntKind.wrap .i64 (m + 1) = m + 1 := wrap_i64 (by omega) (by omega)
    simp only [cntF, wn, wm] at e1 e2
    have i1 : (if isOld r.k = true then n + 1 else n) = incO r.k n := by
      unfold incO isOld
      rcases hkr with h | h | h <;> simp [h]
    have i2 : (if isNew r.k = true then m + 1 else m) = incN r.k m := by
      unfold incN isNew
      rcases hkr with h | h | h <;> simp [h]
    rw [i1] at e1
    rw [i2] at e2
    have b1 : n ≤ incO r.k n ∧ incO r.k n ≤ n + 1 := by unfold incO; split <;> omega
    have b2 : m ≤ incN r.k m ∧ incN r.k m ≤ m + 1 := by unfold incN; split <;> omega
    have c1 := cntF_le isOld l (incO r.k n) (by omega) (by omega)
    have c2 := cntF_le isNew l (incN r.k m) (by omega) (by omega)
    rw [e1] at c1
    rw [e2] at c2
    have hnot : ¬ (n = N ∧ m = M) := by
      rintro ⟨rfl, rfl⟩
      rcases hkr with h | h | h
      · have : incO r.k n = n + 1 := by simp [incO, h]
        omega
      · have : incO r.k n = n + 1 := by simp [incO, h]
        omega
      · have : incN r.k m = m + 1 := by simp [incN, h]
        omega
    have hin : ¬ (N < incO r.k n ∨ M < incN r.k m) := by omega
    have ih := fun fr acc => rows_back N M X hX l (incO r.k n) (incN r.k m) fr acc (fun x hx => hk x (List.mem_cons_of_mem _ hx)) (fun x hx => ht x (List.mem_cons_of_mem _ hx)) (by omega) (by omega) (by omega) (by omega) e1 e2
    have hrow : ∀ t : Ln, rowOf (markF r.k ++ t) = some ⟨r.k, t⟩ ∧ (markF r.k ++ t).head? ≠ some 92 := by
      intro t
      rcases hkr with h | h | h <;> rw [h] <;> exact ⟨rfl, by simp [markF]⟩
    rw [List.flatMap_cons]
    by_cases hw : wholeB r.t = true
    · have hL : rowLines r = [markF r.k ++ r.t] := by unfold rowLines; rw [if_pos hw]
      rw [hL]
      simp only [List.cons_append, List.nil_append]
      rw [rowsL, if_neg (hrow r.t).2, if_neg hnot, (hrow r.t).1]
      simp only
      rw [if_neg hin, ih]
      simp
    · have hL : rowLines r = [markF r.k ++ (r.t ++ [10]), missS] := by unfold rowLines; rw [if_neg hw]
      rw [hL]
      simp only [List.cons_append, List.nil_append]
      rw [rowsL, if_neg (hrow _).2, if_neg hnot, (hrow _).1]
      simp only
      rw [if_neg hin, rowsL, if_pos (by rfl), if_pos rfl, ih]
      have : bareLast (acc ++ [⟨r.k, r.t ++ [10]⟩]) = acc ++ [r] := by
        unfold bareLast
        rw [List.getLast?_append]
        simp [bareB_end]
      rw [this]
      simp
theorem hunk_back {h : Hnk} (hv : validF h = true) (ok : HnkOK h) (X : List Ln) (hX : no92 X) (ahead : List Hnk) (ho : ordL ahead h = true) : hunkL ahead (hunkLines h ++ X) = some (h, X) := by
  obtain ⟨v1, f1, f2, f3, f4, f5, f6⟩ := validF_facts hv (Nat.le_trans ok.rows (by decide))
  have okr := ok.rows
  have hv' := hv
  simp only [validF, Bool.and_eq_true, beq_iff_eq] at hv'
  obtain ⟨⟨⟨⟨⟨⟨_, v2⟩, v3⟩, _⟩, _⟩, _⟩, _⟩ := hv'
  unfold hunkLines
  rw [List.cons_append, hunkL, bareB_end, first_head hv ok, if_pos rfl]
  simp only
  rw [rows_back h.n h.m X hX h.rows 0 0 false [] (rowsF_kinds _ _ _ _ v1) (rowsF_lines _ _ _ _ v1) (by omega) (by omega) (by omega) (by omega) v2.symm v3.symm]
  simp only [List.nil_append]
  rw [if_pos hv, if_pos ho]
theorem hunks_back : ∀ (l acc : List Hnk) (f : Nat), (∀ h ∈ l, validF h = true ∧ HnkOK h) → inOrd l = true → (∀ g h, acc.getLast? = some g → l.head? = some h → ordB g h = true) → l.length < f → hunksL f acc (l.flatMap hunkLines) = some (acc ++ l, [])
  | [], acc, f, _, _, _, hf => by
    cases f with
    | zero => simp at hf
    | succ f => simp [hunksL]
  | h :: l, acc, f, hok, ho, hg, hf => by
    cases f with
    | zero => simp at hf
    | succ f =>
      obtain ⟨hv, ok⟩ := hok h (by simp)
      have hpre : Lib.hasPrefix (headF h ++ [10]) [64, 64, 32, 45] = true := by
        unfold headF Lib.hasPrefix
        rw [List.isPrefixOf_iff_prefix]
        simp only [List.append_assoc]
        exact List.prefix_append _ _
      have hX : no92 (l.flatMap hunkLines) := by
        intro x hx
        cases l with
        | nil => simp at hx
        | cons g l =>
          simp only [List.flatMap_cons, hunkLines, List.cons_append, List.head?_cons, Option.mem_some_iff] at hx
          subst hx
          simp [headF]
      have hord : ordL acc h = true := by
        unfold ordL
        cases e : acc.getLast? with
        | none => rfl
        | some g => exact hg g h e rfl
      rw [List.flatMap_cons]
      show hunksL (f + 1) acc ((headF h ++ [10]) :: (h.rows.flatMap rowLines ++ l.flatMap hunkLines)) = _
      rw [hunksL, if_pos hpre]
      have hb := hunk_back hv ok (l.flatMap hunkLines) hX acc hord
      unfold hunkLines at hb
      rw [List.cons_append] at hb
      unfold hunkLines
      rw [hb]
      simp only
      have ih := hunks_back l (acc ++ [h]) f (fun x hx => hok x (List.mem_cons_of_mem _ hx)) (by
        cases l with
        | nil => rfl
        | cons g l => rw [inOrd, Bool.and_eq_true] at ho; exact ho.2) (fun g h' e1 e2 => by
        rw [List.getLast?_append] at e1
        simp at e1
        subst e1
        cases l with
        | nil => simp at e2
        | cons g l =>
          simp at e2; subst e2
          rw [inOrd, Bool.and_eq_true] at ho; exact ho.1) (by simpa using hf)
      unfold hunkLines at ih
      rw [ih]
      simp
theorem shown_no10 {p s : Ln} (h : nameOKB p s = true) : ∀ c ∈ shownF p s, c ≠ 10 := by
  simp only [nameOKB, Bool.and_eq_true, Bool.not_eq_true'] at h
  have hs : ∀ c ∈ s, c ≠ 10 := fun c hc e => by
    have : hasB s [9, 10, 0] = true := by
      unfold hasB
      rw [List.any_eq_true]
      exact ⟨c, hc, by subst e; rfl⟩
    rw [h.2] at this; cases this
  intro c hc
  unfold shownF at hc
  split at hc
  · exact quote_no10 c hc
  · simp only [List.mem_append, List.mem_singleton] at hc
    rcases hc with (hc | rfl) | hc
    · exact quote_no10 c hc
    · decide
    · exact hs c hc
theorem name_back {mark p s : Ln} (h : nameOKB p s = true) : nameF mark (mark ++ (shownF p s ++ [10])) = some (p, s) := by
  unfold nameF
  have hp : Lib.hasPrefix (mark ++ (shownF p s ++ [10])) mark = true := by simp [Lib.hasPrefix]
  have hb : bareB (mark ++ (shownF p s ++ [10])) = mark ++ shownF p s := by rw [← List.append_assoc, bareB_end]
  have hu : unqF (shownF p s) = some (p, if s = [] then [] else 9 :: s) := by
    unfold shownF
    by_cases e : s = []
    · rw [if_pos e, if_pos e]
      have := unq_quote (p := p) (rest := []) (.inl rfl)
      rwa [List.append_nil] at this
    · rw [if_neg e, if_neg e, List.append_assoc]
      exact unq_quote (p := p) (.inr ⟨s, rfl⟩)
  rw [if_pos hp, hb, List.drop_left, hu]
  by_cases e : s = []
  · rw [if_pos e, e]
  · rw [if_neg e]; simp
theorem parse_print {p s p' s' : Ln} {l : List Hnk} (h1 : nameOKB p s = true) (h2 : nameOKB p' s' = true) (hok : ∀ h ∈ l, validF h = true ∧ HnkOK h) (ho : inOrd l = true) (hne : l ≠ []) (hl : (printF p s p' s' l).length ≤ 4194304) :
    parseF (printF p s p' s' l) = some (⟨(p, s), (p', s'), l, []⟩, []) := by
  obtain ⟨L, hL⟩ : ∃ L, L = ([45, 45, 45, 32] ++ (shownF p s ++ [10])) :: ([43, 43, 43, 32] ++ (shownF p' s' ++ [10])) :: l.flatMap hunkLines := ⟨_, rfl⟩
  have e : printF p s p' s' l = L.flatten := by
    rw [hL, List.flatten_cons, List.flatten_cons, hunks_flat]
    unfold printF
    simp
  have hwl : ∀ x ∈ L, wl x := by
    intro x hx
    rw [hL] at hx
    rcases List.mem_cons.1 hx with rfl | hx
    · exact ⟨lineB_front _ _ (by decide) (lineB_front _ _ (shown_no10 h1) rfl), by rw [wholeB_append (by simp), wholeB_append (by simp)]; rfl⟩
    rcases List.mem_cons.1 hx with rfl | hx
    · exact ⟨lineB_front _ _ (by decide) (lineB_front _ _ (shown_no10 h2) rfl), by rw [wholeB_append (by simp), wholeB_append (by simp)]; rfl⟩
    obtain ⟨h, hh, hx⟩ := List.mem_flatMap.1 hx
    exact hunkLines_wl (hok h hh).1 (hok h hh).2 x hx
  have hsp := split_lines L hwl
  have hend : wholeB L.flatten = true := by
    have : ∀ (M : List Ln), M ≠ [] → (∀ x ∈ M, wl x) → wholeB M.flatten = true ∧ M.flatten ≠ [] := by
      intro M
      induction M with
      | nil => intro h; exact absurd rfl h
      | cons x M ih =>
        intro _ hM
        have hx := hM x (by simp)
        have hxn : x ≠ [] := fun e => by rw [e] at hx; simp [wl, lineB] at hx
        cases M with
        | nil => simpa using ⟨hx.2, hxn⟩
        | cons y M =>
          obtain ⟨i1, i2⟩ := ih (by simp) (fun z hz => hM z (List.mem_cons_of_mem _ hz))
          rw [List.flatten_cons]
          exact ⟨by rw [wholeB_append i2]; exact i1, by simp [hxn]⟩
    exact (this L (by rw [hL]; simp) hwl).1
  have hwf : wholeF L.flatten = L.flatten := by
    unfold wholeF
    rw [if_neg (by rw [hend]; simp)]
  have hread : readL L = some ⟨(p, s), (p', s'), l, []⟩ := by
    rw [hL, readL, name_back h1, name_back h2]
    simp only
    have hlen : l.length ≤ (l.flatMap hunkLines).length := by
      clear hL e hwl hsp hend hwf hok ho hne hl
      induction l with
      | nil => simp
      | cons h l ih => simp only [List.flatMap_cons, List.length_append, List.length_cons, hunkLines]; omega
    rw [hunks_back l [] _ hok ho (by simp) (by omega)]
    cases l with
    | nil => exact absurd rfl hne
    | cons h l => rfl
  unfold parseF
  rw [if_neg (by omega), e, hwf, hsp, hread]
  simp [sizeF, hwf]
end Go.Sv
