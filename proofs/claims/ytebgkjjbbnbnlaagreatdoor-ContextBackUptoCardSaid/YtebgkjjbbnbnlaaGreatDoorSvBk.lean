/- What is read is no greater than its bulk. Hunks that a machine holds: a statement's data as hunks, and their bulk. Package unified, reading, as plain lists: lines, names in quotes, numbers, a hunk's first line. What is printed is read as it was. Names in quotes, read: as plain lists; what is quoted is read as it was. Package unified, printing: a hunk's text, a file's text: what the program and the document's answer answer. Numbers, ranges, a hunk's first line, read: as plain lists; what is printed is read as it was. A unified diff, read: as plain lists. What is printed is read as it was. What a text is read as: hunks that may be, in order; no greater than the text. What stands behind a diff changes nothing of it. -/
import Derived.Test.YtebgkjjbbnbnlaaGreatDoorSvY
import Derived.Test.YtebgkjjbbnbnlaaGreatDoorRows
import Derived.Test.YtebgkjjbbnbnlaaGreatDoorHk
set_option linter.unusedVariables false
set_option linter.unusedSimpArgs false
set_option maxRecDepth 100000
section
namespace Go.Sv
open Go Go.Proofs Go.Proofs.YtebgkjjbbnbnlaaGreatDoor
mutual
def pvB : PV → Nat
  | .str s => s.length + 1
  | .sl xs => pvBs xs + 1
  | .agg cs => pvBs cs
  | _ => 1
def pvBs : List PV → Nat
  | [] => 0
  | p :: r => pvB p + pvBs r
end
theorem pvBs_append : ∀ a b : List PV, pvBs (a ++ b) = pvBs a + pvBs b
  | [], b => by simp [pvBs]
  | p :: r, b => by simp [pvBs, pvBs_append r b, Nat.add_assoc]
theorem pvBs_cells (p : PV) : pvBs p.cells = pvB p := by cases p <;> simp [PV.cells, pvBs, pvB]
theorem pvBs_mem : ∀ (l : List PV) (p : PV), p ∈ l → pvB p ≤ pvBs l
  | [], p, h => by simp at h
  | q :: r, p, h => by
    rcases List.mem_cons.1 h with rfl | h
    · simp only [pvBs]; omega
    · have := pvBs_mem r p h; simp only [pvBs]; omega
mutual
theorem pvB_le {H : Type} : ∀ d : DataW H, pvB (toPV d) ≤ Rows.uptoBulk d
  | .lit (.string l) => by simp [toPV, pvB, Rows.uptoBulk]
  | .slice elems sp => by have := pvBs_le elems; simp only [toPV, pvB, Rows.uptoBulk]; omega
  | .agg parts => by have := pvBc_le parts; simp only [toPV, pvB, Rows.uptoBulk]; omega
  | .lit (.int k n) => by simp [toPV, pvB, Rows.uptoBulk]
  | .lit (.bool b) => by simp [toPV, pvB, Rows.uptoBulk]
  | .nil => by simp [toPV, pvB, pvBs, Rows.uptoBulk]
  | .ptr d => by simp [toPV, pvB, pvBs, Rows.uptoBulk]
  | .iface _ d => by simp [toPV, pvB, pvBs, Rows.uptoBulk]
  | .map e => by simp [toPV, pvB, pvBs, Rows.uptoBulk]
  | .held _ => by simp [toPV, pvB, pvBs, Rows.uptoBulk]
  | .lit .nil => by simp [toPV, pvB, pvBs, Rows.uptoBulk]
  | .lit (.float _ _) => by simp [toPV, pvB, pvBs, Rows.uptoBulk]
theorem pvBs_le {H : Type} : ∀ l : List (DataW H), pvBs (toPVs l) ≤ Rows.uptoBulkAll l
  | [] => by simp [toPVs, pvBs]
  | d :: r => by have := pvB_le d; have := pvBs_le r; simp only [toPVs, pvBs, Rows.uptoBulkAll]; omega
theorem pvBc_le {H : Type} : ∀ l : List (DataW H), pvBs (U9 l) ≤ Rows.uptoBulkAll l
  | [] => by simp [U9, pvBs]
  | d :: r => by have := pvB_le d; have := pvBc_le r; simp only [U9, pvBs_append, pvBs_cells, Rows.uptoBulkAll]; omega
end
end Go.Sv
end
section
namespace Go.Sv
open Go Go.RowKit Go.Proofs
structure HnkOK (h : Hnk) : Prop where
  rows : h.rows.length ≤ 1048576
  text : ∀ x ∈ h.rows, x.t.length ≤ 1048576
  head : h.head.length ≤ 1048576
  a : -9223372036854775808 ≤ h.a ∧ h.a ≤ 9223372036854775807
  b : -9223372036854775808 ≤ h.b ∧ h.b ≤ 9223372036854775807
open Go.Proofs.YtebgkjjbbnbnlaaGreatDoor in
theorem row_list {d : Nat} : ∀ xs : List PV, (∀ x ∈ xs, hasT tabS (d + 2) 51 x) → ∃ l : List Row, xs = l.map rowP
  | [], _ => ⟨[], rfl⟩
  | x :: r, h => by
    obtain ⟨l, rfl⟩ := row_list r fun y hy => h y (List.mem_cons_of_mem _ hy)
    obtain ⟨qs, rfl, g⟩ := hasT_struct tab51 ti51_td (h x (by simp))
    clear h
    obtain ⟨_, qs, rfl, h1, h⟩ := N6 g
    obtain ⟨_, qs, rfl, h2, h⟩ := N6 h
    obtain rfl := fields_nil h
    obtain ⟨k, rfl, _⟩ := hasT_int tab3 ti3_td h1
    obtain ⟨s, rfl, _⟩ := hasT_str tab9 ti9_td h2
    exact ⟨⟨k, s⟩ :: l, rfl⟩
theorem wf_i64 {n : Int} (h : (Lit.int .i64 n).wf = true) : -9223372036854775808 ≤ n ∧ n ≤ 9223372036854775807 := by
  simp only [Lit.wf, Bool.and_eq_true, decide_eq_true_eq] at h
  have e1 : IntKind.min .i64 = -9223372036854775808 := by decide
  have e2 : IntKind.max .i64 = 9223372036854775807 := by decide
  rw [e1, e2] at h
  exact h
theorem hnk_list {d : Nat} : ∀ xs : List PV, (∀ x ∈ xs, hasT tabS (d + 4) 39 x) → ∃ l : List Hnk, xs = l.map hnkP ∧ ∀ h ∈ l, (-9223372036854775808 ≤ h.a ∧ h.a ≤ 9223372036854775807) ∧ (-9223372036854775808 ≤ h.b ∧ h.b ≤ 9223372036854775807)
  | [], _ => ⟨[], rfl, fun h hh => by simp at hh⟩
  | x :: r, h => by
    obtain ⟨l, rfl, hl⟩ := hnk_list r fun y hy => h y (List.mem_cons_of_mem _ hy)
    obtain ⟨qs, rfl, g⟩ := hasT_struct tab39 ti39_td (h x (by simp))
    clear h
    obtain ⟨_, qs, rfl, h1, h⟩ := N6 g
    obtain ⟨_, qs, rfl, h2, h⟩ := N6 h
    obtain ⟨_, qs, rfl, h3, h⟩ := N6 h
    obtain ⟨_, qs, rfl, h4, h⟩ := N6 h
    obtain ⟨_, qs, rfl, h5, h⟩ := N6 h
    obtain ⟨_, qs, rfl, h6, h⟩ := N6 h
    obtain rfl := fields_nil h
    obtain ⟨a, rfl, wa⟩ := hasT_int tab3 ti3_td h1
    obtain ⟨n, rfl, _⟩ := hasT_int tab3 ti3_td h2
    obtain ⟨b, rfl, wb⟩ := hasT_int tab3 ti3_td h3
    obtain ⟨m, rfl, _⟩ := hasT_int tab3 ti3_td h4
    obtain ⟨s, rfl, _⟩ := hasT_str tab9 ti9_td h5
    obtain ⟨ys, rfl, hy⟩ := hasT_slice tab37 ti37_td h6
    obtain ⟨rs, rfl⟩ := row_list ys hy
    refine ⟨⟨a, n, b, m, s, rs⟩ :: l, rfl, fun h hh => ?_⟩
    rcases List.mem_cons.1 hh with rfl | hh
    · exact ⟨wf_i64 wa, wf_i64 wb⟩
    · exact hl h hh
theorem rows_bulk : ∀ l : List Row, l.length ≤ pvBs (l.map rowP) ∧ ∀ x ∈ l, x.t.length ≤ pvBs (l.map rowP)
  | [] => ⟨Nat.zero_le _, fun x h => by simp at h⟩
  | c :: r => by
    obtain ⟨h1, h2⟩ := rows_bulk r
    simp only [List.map_cons, pvBs, pvB, List.length_cons]
    refine ⟨by omega, fun x hx => ?_⟩
    rcases List.mem_cons.1 hx with rfl | hx
    · omega
    · have := h2 x hx; omega
theorem hnk_bulk (h : Hnk) : h.rows.length ≤ pvB (hnkP h) ∧ (∀ x ∈ h.rows, x.t.length ≤ pvB (hnkP h)) ∧ h.head.length ≤ pvB (hnkP h) := by
  obtain ⟨h1, h2⟩ := rows_bulk h.rows
  simp only [pvB, pvBs]
  exact ⟨by omega, fun x hx => by have := h2 x hx; omega, by omega⟩
theorem hnks_bulk : ∀ l : List Hnk, l.length ≤ pvBs (l.map hnkP)
  | [] => Nat.zero_le _
  | c :: r => by
    have := hnks_bulk r
    simp only [List.map_cons, pvBs, pvB, List.length_cons]
    omega
theorem hnks_ok {l : List Hnk} {B : Nat} (hB : B ≤ 1048576) (hb : pvBs (l.map hnkP) ≤ B) (hl : ∀ h ∈ l, (-9223372036854775808 ≤ h.a ∧ h.a ≤ 9223372036854775807) ∧ (-9223372036854775808 ≤ h.b ∧ h.b ≤ 9223372036854775807)) : l.length ≤ 1048576 ∧ ∀ h ∈ l, HnkOK h := by
  refine ⟨by have := hnks_bulk l; omega, fun h hh => ?_⟩
  have h0 := pvBs_mem _ _ (List.mem_map_of_mem (f := hnkP) hh)
  obtain ⟨h1, h2, h3⟩ := hnk_bulk h
  exact ⟨by omega, fun x hx => by have := h2 x hx; omega, by omega, (hl h hh).1, (hl h hh).2⟩
end Go.Sv
end
section
namespace Go.Sv
def I2 : List UInt8 → List (List UInt8)
  | [] => []
  | c :: r => if c = 10 then [10] :: I2 r else match I2 r with
    | [] => [[c]]
    | l :: ls => (c :: l) :: ls
theorem Y2 : ∀ s : List UInt8, (I2 s).flatten = s
  | [] => rfl
  | c :: r => by
    have ih := Y2 r
    unfold I2
    split
    · rename_i h; subst h; simp [ih]
    · split
      · rename_i h; rw [h] at ih; simp at ih; subst ih; rfl
      · rename_i l ls h; rw [h] at ih; simp only [List.flatten_cons, List.cons_append] at ih ⊢; rw [ih]
theorem splitF_ne : ∀ (s : List UInt8), ∀ l ∈ I2 s, l ≠ []
  | [], l, h => by simp [I2] at h
  | c :: r, l, h => by
    unfold I2 at h
    split at h
    · rcases List.mem_cons.1 h with rfl | h
      · simp
      · exact splitF_ne r l h
    · split at h
      · simp at h; subst h; simp
      · rename_i l0 ls e
        rcases List.mem_cons.1 h with rfl | h
        · simp
        · exact splitF_ne r l (by rw [e]; exact List.mem_cons_of_mem _ h)
theorem splitF_nil {s : List UInt8} (h : I2 s = []) : s = [] := by
  have := Y2 s
  rw [h] at this
  simpa using this.symm
def endB (s : List UInt8) : Bool := s == [] || K4 s
theorem wholeB_cons {c : UInt8} {r : List UInt8} (h : r ≠ []) : K4 (c :: r) = K4 r := by
  cases r with
  | nil => exact absurd rfl h
  | cons d r => simp [K4]
theorem K8 {s t : List UInt8} (h : t ≠ []) : K4 (s ++ t) = K4 t := by
  induction s with
  | nil => rfl
  | cons c s ih => rw [List.cons_append, wholeB_cons (by simp [h]), ih]
theorem U4 : ∀ (s t : List UInt8), endB s = true → I2 (s ++ t) = I2 s ++ I2 t
  | [], t, _ => rfl
  | c :: r, t, h => by
    simp only [List.cons_append]
    by_cases hc : c = 10
    · subst hc
      have hr : endB r = true := by
        cases r with
        | nil => rfl
        | cons d r => simpa [endB, wholeB_cons] using h
      rw [I2, I2, if_pos rfl, if_pos rfl, U4 r t hr]; rfl
    · have hr : K4 r = true ∧ r ≠ [] := by
        cases r with
        | nil => simp [endB, K4, hc] at h
        | cons d r => exact ⟨by simpa [endB, wholeB_cons] using h, by simp⟩
      rw [I2, I2, if_neg hc, if_neg hc, U4 r t (by simp [endB, hr.1])]
      have hne : I2 r ≠ [] := fun e => hr.2 (splitF_nil e)
      cases hs : I2 r with
      | nil => exact absurd hs hne
      | cons l ls => simp
theorem splitF_line : ∀ (s : List UInt8), lineB s = true → I2 s = [s]
  | [], h => by simp [lineB] at h
  | c :: r, h => by
    cases r with
    | nil =>
      unfold I2
      split
      · rename_i e; subst e; rfl
      · rfl
    | cons d r =>
      simp only [lineB, Bool.and_eq_true, List.dropLast_cons_cons, List.contains_cons, Bool.not_or] at h
      have hc : ¬ c = 10 := fun e => by subst e; simp at h
      have ih := splitF_line (d :: r) (by simp only [lineB, Bool.and_eq_true]; exact ⟨by simp, h.2.2⟩)
      rw [I2, if_neg hc, ih]
theorem splitF_first : ∀ (s : List UInt8), s ≠ [] → ∃ k : Nat, 0 < k ∧ k ≤ s.length ∧ (if Lib.indexByte s 10 = -1 then (s.length : Int) else Lib.indexByte s 10 + 1) = (k : Int) ∧ I2 s = s.take k :: I2 (s.drop k)
  | [], h => absurd rfl h
  | c :: r, _ => by
    have hge := Lib.indexByte_ge r 10
    rw [Lib.indexByte]
    by_cases hc : c = 10
    · subst hc
      exact ⟨1, by decide, by simp, by simp, by simp [I2]⟩
    · have hb : (c == 10) = false := beq_false_of_ne hc
      rw [hb]
      simp only [Bool.false_eq_true, if_false]
      cases r with
      | nil => exact ⟨1, by decide, by simp, by simp [Lib.indexByte], by simp [I2, hc]⟩
      | cons d r =>
        obtain ⟨k, h1, h2, h3, h4⟩ := splitF_first (d :: r) (by simp)
        refine ⟨k + 1, by omega, by simp only [List.length_cons] at h2 ⊢; omega, ?_, ?_⟩
        · by_cases hm : Lib.indexByte (d :: r) 10 = -1
          · rw [hm] at h3 ⊢
            simp only [if_true, beq_self_eq_true] at h3 ⊢
            simp only [List.length_cons] at h3 ⊢
            omega
          · have hb2 : (Lib.indexByte (d :: r) 10 == -1) = false := beq_false_of_ne hm
            rw [if_neg hm] at h3
            rw [hb2]
            simp only [Bool.false_eq_true, if_false]
            rw [if_neg (by omega)]
            omega
        · rw [I2, if_neg hc, h4]; rfl
end Go.Sv
end
section
namespace Go.Sv
def meantT (k : Nat) : Option Nat := match k with
  | 97 => some 7 | 98 => some 8 | 116 => some 9 | 110 => some 10 | 118 => some 11 | 102 => some 12 | 114 => some 13 | 34 => some 34 | 92 => some 92 | _ => none
def octV (a b c : Nat) : Option Nat := if 48 ≤ a ∧ a ≤ 51 ∧ 48 ≤ b ∧ b ≤ 55 ∧ 48 ≤ c ∧ c ≤ 55 then some ((a - 48) * 64 + (b - 48) * 8 + (c - 48)) else none
def octF : List UInt8 → Option Nat
  | a :: b :: c :: _ => octV a.toNat b.toNat c.toNat
  | _ => none
def uqL : Nat → List UInt8 → List UInt8 → Option (List UInt8 × List UInt8)
  | 0, _, _ => none
  | _ + 1, [], _ => none
  | n + 1, c :: r, acc =>
    if c = 34 then some (acc, r) else if c = 10 then none else if c ≠ 92 then uqL n r (acc ++ [c]) else
    match r with
    | [] => none
    | d :: r1 => match meantT d.toNat with
      | some m => uqL n r1 (acc ++ [UInt8.ofNat m])
      | none => match octF (d :: r1) with
        | some v => uqL n ((d :: r1).drop 3) (acc ++ [UInt8.ofNat v])
        | none => none
def R6 : List UInt8 → Nat
  | [] => 0
  | c :: r => if c = 9 ∨ c = 10 then 0 else R6 r + 1
def unqF (s : List UInt8) : Option (List UInt8 × List UInt8) := match s with
  | 34 :: r => uqL (r.length + 1) r []
  | s => some (s.take (R6 s), s.drop (R6 s))
theorem nameEnd_le : ∀ s : List UInt8, R6 s ≤ s.length
  | [] => Nat.le_refl _
  | c :: r => by
    have := nameEnd_le r
    unfold R6
    split
    · omega
    · simp only [List.length_cons]; omega
theorem nameEnd_any : ∀ s : List UInt8, (if Lib.indexAny s [9, 10] < 0 then (s.length : Int) else Lib.indexAny s [9, 10]) = (R6 s : Int)
  | [] => rfl
  | c :: r => by
    have ih := nameEnd_any r
    have hge := Lib.indexAny_ge [9, 10] r
    rw [Lib.indexAny, R6]
    have hc : ([9, 10] : List UInt8).contains c = true ↔ c = 9 ∨ c = 10 := by simp
    by_cases h : c = 9 ∨ c = 10
    · rw [if_pos (hc.2 h), if_pos h]; rfl
    · rw [if_neg (fun e => h (hc.1 e)), if_neg h]
      by_cases hm : Lib.indexAny r [9, 10] = -1
      · rw [hm] at ih ⊢
        simp only [beq_self_eq_true, if_true, List.length_cons] at ih ⊢
        rw [if_pos (by omega)] at ih
        rw [if_pos (by omega)]
        omega
      · have hb : (Lib.indexAny r [9, 10] == -1) = false := beq_false_of_ne hm
        rw [hb]
        simp only [Bool.false_eq_true, if_false]
        rw [if_neg (by omega)] at ih
        rw [if_neg (by omega)]
        omega
def escOK (k : Nat) : Bool :=
  if letN k ≠ 0 then meantT (letN k) == some k
  else if k < 32 ∨ 127 ≤ k then meantT (48 + k / 64) == none && octV (48 + k / 64) (48 + k / 8 % 8) (48 + k % 8) == some k
  else k != 34 && k != 10 && k != 92
theorem escOK_all : (List.range 256).all escOK = true := by decide +kernel
theorem escOK_at {k : Nat} (h : k < 256) : escOK k = true := List.all_eq_true.1 escOK_all k (List.mem_range.2 h)
theorem letN_lt (k : Nat) : letN k < 256 := by unfold letN; split <;> omega
theorem uq_esc (c : UInt8) (n : Nat) (X acc : List UInt8) : uqL (n + 1) (esc c ++ X) acc = uqL n X (acc ++ [c]) := by
  have hc := c.toNat_lt
  have hok := escOK_at hc
  unfold escOK at hok
  have hto : UInt8.ofNat c.toNat = c := by simp
  have key : ∀ m : Nat, m < 256 → (UInt8.ofNat m).toNat = m := fun m h => UInt8.toNat_ofNat_of_lt' h
  show uqL (n + 1) (escN c.toNat ++ X) acc = _
  unfold escN
  split at hok
  · rename_i h
    rw [if_pos h]
    have hm : meantT (letN c.toNat) = some c.toNat := by simpa using hok
    simp only [List.cons_append, List.nil_append]
    rw [uqL, if_neg (by decide), if_neg (by decide), if_neg (by decide)]
    simp only [key _ (letN_lt _), hm, hto]
  · rename_i h
    rw [if_neg h]
    split at hok
    · rename_i h2
      rw [if_pos h2]
      simp only [Bool.and_eq_true, beq_iff_eq] at hok
      unfold octN
      simp only [List.cons_append, List.nil_append]
      rw [uqL, if_neg (by decide), if_neg (by decide), if_neg (by decide)]
      simp only [key (48 + c.toNat / 64) (by omega), hok.1, octF, key (48 + c.toNat / 8 % 8) (by omega), key (48 + c.toNat % 8) (by omega), hok.2, hto]
      rfl
    · rename_i h2
      rw [if_neg h2]
      simp only [Bool.and_eq_true, bne_iff_ne, ne_eq] at hok
      have e1 : c ≠ 34 := fun e => hok.1.1 (by subst e; rfl)
      have e2 : c ≠ 10 := fun e => hok.1.2 (by subst e; rfl)
      have e3 : c ≠ 92 := fun e => hok.2 (by subst e; rfl)
      simp only [List.cons_append, List.nil_append, hto]
      conv => lhs; rw [uqL.eq_def]
      simp only [e1, e2, e3, if_false, if_true, ne_eq, not_false_eq_true]
theorem esc_pos (c : UInt8) : 1 ≤ (esc c).length := by
  show 1 ≤ (escN c.toNat).length
  unfold escN octN
  repeat' split
  all_goals simp
theorem uq_all : ∀ (p : List UInt8) (n : Nat) (rest acc : List UInt8), p.length < n → uqL n (p.flatMap esc ++ 34 :: rest) acc = some (acc ++ p, rest)
  | [], n, rest, acc, h => by
    cases n with
    | zero => simp at h
    | succ n => simp [uqL]
  | c :: p, n, rest, acc, h => by
    cases n with
    | zero => simp at h
    | succ n =>
      rw [List.flatMap_cons, List.append_assoc, uq_esc, uq_all p n rest _ (by simpa using h)]
      simp
theorem flatMap_esc_len : ∀ p : List UInt8, p.length ≤ (p.flatMap esc).length
  | [] => by simp
  | c :: p => by
    have := flatMap_esc_len p
    have := esc_pos c
    simp only [List.flatMap_cons, List.length_append, List.length_cons]
    omega
theorem badB_false {c : UInt8} (h : badB c = false) : 33 ≤ c.toNat ∧ c.toNat < 127 ∧ c ≠ 34 ∧ c ≠ 92 := by
  simp only [badB, Bool.or_eq_false_iff, decide_eq_false_iff_not, beq_eq_false_iff_ne, ne_eq] at h
  obtain ⟨h1, h2, h3, h4⟩ := h
  refine ⟨by omega, by omega, fun e => h3 (by subst e; rfl), fun e => h4 (by subst e; rfl)⟩
theorem nameEnd_plain : ∀ (p rest : List UInt8), (∀ c ∈ p, badB c = false) → (rest = [] ∨ ∃ r, rest = 9 :: r) → R6 (p ++ rest) = p.length
  | [], rest, _, h => by
    rcases h with rfl | ⟨r, rfl⟩
    · rfl
    · simp [R6]
  | c :: p, rest, hp, h => by
    obtain ⟨h1, h2, _⟩ := badB_false (hp c (by simp))
    have : ¬ (c = 9 ∨ c = 10) := by
      rintro (e | e) <;> subst e <;> simp at h1
    rw [List.cons_append, R6, if_neg this, nameEnd_plain p rest (fun x hx => hp x (List.mem_cons_of_mem _ hx)) h]
    rfl
theorem unq_quote {p rest : List UInt8} (h : rest = [] ∨ ∃ r, rest = 9 :: r) : unqF (quoteF p ++ rest) = some (p, rest) := by
  unfold quoteF
  split
  · have e : [34] ++ p.flatMap esc ++ [34] ++ rest = 34 :: (p.flatMap esc ++ 34 :: rest) := by simp
    rw [e]
    show uqL _ _ [] = _
    rw [uq_all p _ rest [] (by have := flatMap_esc_len p; simp only [List.length_append, List.length_cons]; omega)]
    rfl
  · rename_i hn
    simp only [needsF, Bool.or_eq_true, not_or, Bool.not_eq_true, List.any_eq_false] at hn
    have hp : ∀ c ∈ p, badB c = false := fun c hc => by simpa using hn.2 c hc
    have hne : p ≠ [] := fun e => by subst e; simp at hn
    cases p with
    | nil => exact absurd rfl hne
    | cons c r =>
      have hc := (badB_false (hp c (by simp))).2.2.1
      have e := nameEnd_plain (c :: r) rest hp h
      have hu : unqF (c :: r ++ rest) = some ((c :: r ++ rest).take (R6 (c :: r ++ rest)), (c :: r ++ rest).drop (R6 (c :: r ++ rest))) := by
        unfold unqF
        split
        · rename_i r' he
          simp only [List.cons_append, List.cons.injEq] at he
          exact absurd he.1 hc
        · rfl
      rw [hu, e]
      simp
theorem quote_no10 {p : List UInt8} : ∀ c ∈ quoteF p, c ≠ 10 := by
  intro c hc
  unfold quoteF at hc
  split at hc
  · simp only [List.mem_append, List.mem_singleton, List.mem_flatMap] at hc
    rcases hc with (rfl | ⟨d, _, hd⟩) | rfl
    · decide
    · have hlt := d.toNat_lt
      have hok := escOK_at hlt
      unfold escOK at hok
      have : c ∈ escN d.toNat := hd
      unfold escN octN at this
      split at hok
      · rename_i h
        rw [if_pos h] at this
        simp only [List.mem_cons, List.not_mem_nil, or_false] at this
        rcases this with rfl | rfl
        · decide
        · intro e
          have e2 : letN d.toNat = 10 := by
            have := congrArg UInt8.toNat e
            rwa [UInt8.toNat_ofNat_of_lt' (letN_lt _)] at this
          rw [e2] at hok
          simp [meantT] at hok
      · rename_i h
        rw [if_neg h] at this
        split at hok
        · rename_i h2
          rw [if_pos h2] at this
          have key : ∀ m : Nat, 48 ≤ m → m < 256 → UInt8.ofNat m ≠ 10 := fun m h1 h2 e => by
            have := congrArg UInt8.toNat e
            rw [UInt8.toNat_ofNat_of_lt' h2] at this
            have h10 : UInt8.toNat 10 = 10 := rfl
            omega
          simp only [List.mem_cons, List.not_mem_nil, or_false] at this
          rcases this with rfl | rfl | rfl | rfl
          · decide
          · exact key _ (by omega) (by omega)
          · exact key _ (by omega) (by omega)
          · exact key _ (by omega) (by omega)
        · rename_i h2
          rw [if_neg h2] at this
          simp only [List.mem_cons, List.not_mem_nil, or_false] at this
          simp only [Bool.and_eq_true, bne_iff_ne, ne_eq] at hok
          rw [this]
          intro e
          have := congrArg UInt8.toNat e
          rw [UInt8.toNat_ofNat_of_lt' hlt] at this
          exact hok.1.2 this
    · decide
  · rename_i hn
    simp only [needsF, Bool.or_eq_true, not_or, Bool.not_eq_true, List.any_eq_false] at hn
    have := (badB_false (by simpa using hn.2 c hc)).1
    intro e; subst e; simp at this
end Go.Sv
end
section
namespace Go.Sv
section
open Go Go.RowKit
theorem flat_rows_len : ∀ l : List Row, (l.flatMap rowF1).length ≤ 31 * pvBs (l.map rowP)
  | [] => by simp
  | r :: l => by
    have ih := flat_rows_len l
    have := rowF1_len r
    simp only [List.flatMap_cons, List.length_append, List.map_cons, pvBs, pvB]
    omega
theorem headF_len {h : Hnk} (hv : H0 h = true) (ok : HnkOK h) : (headF h).length ≤ 100 + h.head.length := by
  obtain ⟨_, f1, f2, f3, f4, f5, f6⟩ := validF_facts hv (Nat.le_trans ok.rows (by decide))
  have e1 := spanF_len (a := h.a) (n := h.n) f5 ok.a.2 f1 (by omega)
  have e2 := spanF_len (a := h.b) (n := h.m) f6 ok.b.2 f3 (by omega)
  unfold headF
  split
  · simp only [List.length_append, List.length_cons, List.length_nil]; omega
  · simp only [List.length_append, List.length_cons, List.length_nil]; omega
theorem hunkF_len {h : Hnk} (hv : H0 h = true) (ok : HnkOK h) : (hunkF h).length ≤ 150 * pvB (hnkP h) := by
  have e1 := headF_len hv ok
  have e2 := flat_rows_len h.rows
  simp only [hunkF, List.length_append, List.length_cons, List.length_nil, pvB, pvBs]
  omega
def printF (p s p' s' : List UInt8) (l : List Hnk) : List UInt8 := (((([45, 45, 45, 32] ++ J5 p s) ++ [10, 43, 43, 43, 32]) ++ J5 p' s') ++ [10]) ++ l.flatMap hunkF
def inOrd : List Hnk → Bool
  | g :: h :: r => ordB g h && inOrd (h :: r)
  | _ => true
def O8 (p s p' s' : List UInt8) (l : List Hnk) : Int :=
  if (L2 p s && L2 p' s') = false then 110 else if l.all H0 = false then 100 else if inOrd l = false then 112 else 0
end
section
open Go Go.RowKit Go.Proofs
variable {w0 : Base} {σ : Store} {R : AV → Store → Prop}
abbrev tyB : TypeId := 58
def hunkOut (h : Hnk) : AV := .tup [.pv (.str (if H0 h = true then hunkF h else [])), vErr (H0 h)]
theorem hrows_loop (h : Hnk) (xs : List PV) (hx : xs.length ≤ 1048576) (v : AV) : ∀ (r : List Row) (k : Nat) (acc : List UInt8), xs.drop k = r.map rowP → (∀ x ∈ r, x.t.length ≤ 1048576) → (∀ x ∈ r, x.k = 1 ∨ x.k = 2 ∨ x.k = 3) →
    acc.length + (r.flatMap rowF1).length ≤ 140737488355328 → v = .tup [.pv (.str (acc ++ r.flatMap rowF1)), .pv (.raw .nilIface)] →
    D2.n26 (D2.X w0 0) w0 0 (fun r' _ => r' = v) [.cells 39 (hnkC h), .bld tyB 5 acc] (.ptr 1 0) (.pv (.sl xs)) xs.length k
  | [], k, acc, hd, _, _, _, hv => by
    have hk := M0 hd
    refine D2.n26_in ?_
    rw [D2.b27_eq, A7, if_neg (by omega)]
    refine D2.n58_in ?_
    rw [D2.b58_eq]
    refine V2 rfl (I0 (C5 (Nat.zero_le _) ?_))
    rw [hv]; simp
  | c :: r, k, acc, hd, ht, hK, hl, hv => by
    obtain ⟨h1, h2, hk⟩ := H4 hd
    have hc := ht c (by simp)
    have hkc := hK c (by simp)
    simp only [List.flatMap_cons, List.length_append] at hl
    have ih := fun acc' => hrows_loop h xs hx v r (k + 1) acc' h2 (fun x hx => ht x (List.mem_cons_of_mem _ hx)) (fun x hx => hK x (List.mem_cons_of_mem _ hx))
    have next : ∀ s, s = acc ++ rowF1 c → D2.n57 (D2.X w0 0) w0 0 (fun r' _ => r' = v) [.cells 39 (hnkC h), .bld tyB 5 s, .cells 51 [.pv (.int .i64 c.k), .pv (.str c.t)]] (.ptr 1 0) (.pv (.sl xs)) xs.length k := by
      rintro s rfl
      refine D2.n57_in ?_
      rw [D2.b57_eq, I3 hk (by omega)]
      refine D2.n26_weak (EWeak.drop (τ := [.cells 39 (hnkC h), .bld tyB 5 (acc ++ rowF1 c)]) glob0 (Nat.zero_le _) rfl rfl) ?_
      exact ih _ (by simp only [List.length_append]; omega) (by rw [hv, List.flatMap_cons, List.append_assoc])
    have key : ∀ m, m = markF c.k → D2.n50 (D2.X w0 0) w0 0 (fun r' _ => r' = v) [.cells 39 (hnkC h), .bld tyB 5 (acc ++ m), .cells 51 [.pv (.int .i64 c.k), .pv (.str c.t)]] (.ptr 1 0) (.ptr 2 0) (.pv (.sl xs)) xs.length k := by
      rintro m rfl
      have hm : (markF c.k).length = 1 := by unfold markF; split <;> (try split) <;> rfl
      have hr : (rowF1 c).length = 1 + (tailF c.t).length := by simp only [rowF1, List.length_append, hm]
      have ht1 : (tailF c.t).length = if K4 c.t = true then c.t.length else c.t.length + 29 := by
        unfold tailF; split
        · rfl
        · simp only [List.length_append, List.length_cons, List.length_nil, missS]
      refine D2.n50_in ?_
      rw [D2.b50_eq]
      repeat ((with_reducible first | apply A0 | apply wI | apply wT | apply wP | apply wS | apply wB); exact rfl)
      refine E8 (id := 1) rfl (by simp only [List.length_append, hm]; split at ht1 <;> omega) ?_
      repeat ((with_reducible first | apply A0 | apply wI | apply wT | apply wP | apply wS | apply wB); exact rfl)
      refine whole_spec (by omega) (F5 ?_)
      rw [E3]
      refine A5 (fun g => next _ ?_) (fun g => ?_)
      · rw [rowF1, tailF, if_pos g, List.append_assoc]
      · rw [if_neg (by rw [g]; decide)] at ht1
        refine E8 (id := 1) rfl (by simp only [List.length_append, List.length_cons, List.length_nil, hm]; omega) ?_
        refine next _ ?_
        rw [rowF1, tailF, if_neg (by rw [g]; decide)]
        simp [missS]
    refine D2.n26_in ?_
    rw [D2.b27_eq, A7, if_pos (by omega)]
    refine A0 (K7 tab51 h1 rfl) ?_
    repeat ((with_reducible first | apply A0 | apply wI | apply wT | apply wP | apply wS | apply wB); exact rfl)
    have hr := rowF1_len c
    have hr1 : 1 ≤ (rowF1 c).length := by
      simp only [rowF1, List.length_append]
      have : (markF c.k).length = 1 := by unfold markF; split <;> (try split) <;> rfl
      omega
    rw [G4]
    refine B8 (fun g => ?_) (fun g => ?_)
    · refine E8 (id := 1) rfl (by simp only [List.length_cons, List.length_nil]; omega) (key _ ?_)
      rw [markF, if_pos g]
    · rw [G4]
      refine B8 (fun g2 => ?_) (fun g2 => ?_)
      · refine E8 (id := 1) rfl (by simp only [List.length_cons, List.length_nil]; omega) (key _ ?_)
        rw [markF, if_neg g, if_pos g2]
      · refine E8 (id := 1) rfl (by simp only [List.length_cons, List.length_nil]; omega) (key _ ?_)
        rw [markF, if_neg g, if_neg g2]
theorem hunkOut_under (h : Hnk) : AV.under 0 (hunkOut h) = true := by unfold hunkOut vErr; split <;> rfl
theorem Hunk_spec (L : Laid w0.w) {h : Hnk} (ok : HnkOK h) (hB : pvB (hnkP h) ≤ 8388608) (hR : R (hunkOut h) σ) : A1 (cx w0) D2.id [.pv (hnkP h)] σ R := by
  refine A1.alone L rfl (fun w1 L1 => ?_) (hunkOut_under h) hR
  refine D2.calls ?_
  rw [D2.b0_eq]
  refine ⟨rfl, ?_⟩
  repeat ((with_reducible first | apply A0 | apply wI | apply wT | apply wP | apply wS | apply wB); exact rfl)
  refine Valid_spec L1 (Nat.le_trans ok.rows (by decide)) (fun x hx => Nat.le_trans (ok.text x hx) (by decide)) (Nat.le_trans ok.head (by decide)) ok.a ok.b ?_
  cases hv : H0 h with
  | false =>
    rw [vErr, if_neg (by decide), Q3]
    refine A0 rfl (A0 (v := false) rfl (F5 ?_))
    refine A5 (fun _ => ?_) (fun h => absurd h (by decide))
    repeat ((with_reducible first | apply A0 | apply wI | apply wT | apply wP | apply wS | apply wB); exact rfl)
    refine C5 (Nat.zero_le _) ?_
    unfold hunkOut
    rw [hv]; rfl
  | true =>
    rw [vErr, if_pos rfl, Q3]
    refine A0 rfl (A0 (v := true) rfl (F5 ?_))
    refine A5 (fun h => absurd h (by decide)) (fun _ => ?_)
    obtain ⟨v1, f1, f2, f3, f4, f5, f6⟩ := validF_facts hv (Nat.le_trans ok.rows (by decide))
    have e1 := spanF_len (a := h.a) (n := h.n) f5 ok.a.2 f1 (by omega)
    have e2 := spanF_len (a := h.b) (n := h.m) f6 ok.b.2 f3 (by omega)
    have e3 := hunkF_len hv ok
    have e4 := ok.head
    have fin : ∀ s, s = headF h → D2.n20 (D2.X w1 0) w1 0 (fun r' _ => r' = hunkOut h) [.cells 39 (hnkC h), .bld tyB 5 s] (.ptr 0 0) (.ptr 1 0) := by
      rintro s rfl
      have e5 := headF_len hv ok
      refine D2.n20_in ?_
      rw [D2.b20_eq]
      refine E8 (id := 1) rfl (by simp only [List.length_cons, List.length_nil]; omega) ?_
      repeat ((with_reducible first | apply A0 | apply wI | apply wT | apply wP | apply wS | apply wB); exact rfl)
      have := hrows_loop (w0 := w1) h (h.rows.map rowP) (by rw [List.length_map]; exact ok.rows) (hunkOut h) h.rows 0 (headF h ++ [10]) rfl ok.text (rowsF_kinds _ _ _ _ v1) (by
        simp only [hunkF, List.length_append, List.length_cons, List.length_nil] at e3 ⊢; omega) (by
        unfold hunkOut; rw [hv]; rfl)
      exact this
    repeat ((with_reducible first | apply A0 | apply wI | apply wT | apply wP | apply wS | apply wB); exact rfl)
    refine span_spec L1 f5 ok.a.2 f1 (by omega) (I0 ⟨rfl, rfl, ?_⟩)
    refine ⟨by simp only [List.length_cons, List.length_nil]; omega, by simp only [List.length_append, List.length_cons, List.length_nil]; omega, ?_⟩
    refine span_spec L1 f6 ok.b.2 f3 (by omega) (I0 ?_)
    refine ⟨by simp only [List.length_append, List.length_cons, List.length_nil]; omega, by simp only [List.length_append, List.length_cons, List.length_nil]; omega, ?_⟩
    refine E8 (id := 1) rfl (by simp only [List.length_append, List.length_cons, List.length_nil]; omega) ?_
    repeat ((with_reducible first | apply A0 | apply wI | apply wT | apply wP | apply wS | apply wB); exact rfl)
    rw [E3, P0]
    refine B8 (fun g => fin _ ?_) (fun g => ?_)
    · rw [headF, if_pos g]; simp
    · repeat ((with_reducible first | apply A0 | apply wI | apply wT | apply wP | apply wS | apply wB); exact rfl)
      refine ⟨by simp only [List.length_cons, List.length_nil]; omega, ?_⟩
      refine E8 (id := 1) rfl (by simp only [List.length_append, List.length_cons, List.length_nil]; omega) (fin _ ?_)
      rw [headF, if_neg g]; simp
end
end Go.Sv
end
section
namespace Go.Sv
def cutF (s p : List UInt8) : List UInt8 × Bool := if Lib.hasPrefix s p = true then (s.drop p.length, true) else (s, false)
theorem dec_pos (u : Nat) : 1 ≤ (Lib.decDigits u).length := by
  rw [Lib.decDigits]
  split
  · simp
  · simp
theorem valid_small {h : Hnk} (hv : H0 h = true) (ok : HnkOK h) : (0 ≤ h.a ∧ h.a ≤ 2147483647) ∧ (0 ≤ h.n ∧ h.n ≤ 2147483647) ∧ (0 ≤ h.b ∧ h.b ≤ 2147483647) ∧ (0 ≤ h.m ∧ h.m ≤ 2147483647) := by
  obtain ⟨_, f1, f2, f3, f4, f5, f6⟩ := validF_facts hv (Nat.le_trans ok.rows (by decide))
  simp only [H0, Bool.and_eq_true, beq_iff_eq] at hv
  obtain ⟨⟨⟨⟨⟨⟨v1, v2⟩, v3⟩, v4⟩, v5⟩, v6⟩, v7⟩ := hv
  simp only [startB, Bool.and_eq_true, decide_eq_true_eq] at v4 v5
  rw [← v2] at v4
  rw [← v3] at v5
  rw [G3 (by omega) (by omega)] at v4 v5
  omega
end Go.Sv
end
section
namespace Go.Sv
abbrev Ln := List UInt8
def wl (l : Ln) : Prop := lineB l = true ∧ K4 l = true
theorem split_lines : ∀ L : List Ln, (∀ l ∈ L, wl l) → I2 L.flatten = L
  | [], _ => rfl
  | l :: L, h => by
    obtain ⟨h1, h2⟩ := h l (by simp)
    rw [List.flatten_cons, U4 l _ (by simp [endB, h2]), splitF_line l h1, split_lines L (fun x hx => h x (List.mem_cons_of_mem _ hx))]
    rfl
theorem N4 : ∀ (s t : Ln), (∀ c ∈ s, c ≠ 10) → lineB t = true → lineB (s ++ t) = true
  | [], t, _, h => h
  | c :: s, t, hs, h => by
    have ih := N4 s t (fun x hx => hs x (List.mem_cons_of_mem _ hx)) h
    have hne : s ++ t ≠ [] := by
      intro e
      rw [e] at ih; simp [lineB] at ih
    cases e : s ++ t with
    | nil => exact absurd e hne
    | cons d r =>
      rw [List.cons_append, e]
      rw [e] at ih
      simp only [lineB, Bool.and_eq_true] at ih ⊢
      refine ⟨by simp, ?_⟩
      rw [List.dropLast_cons_cons, List.contains_cons]
      have : ((10 : UInt8) == c) = false := beq_false_of_ne (Ne.symm (hs c (by simp)))
      rw [this, Bool.false_or]
      exact ih.2
theorem part_no10 {t : Ln} (h : lineB t = true) (hw : K4 t = false) : ∀ c ∈ t, c ≠ 10 := by
  intro c hc e
  subst e
  rcases List.eq_nil_or_concat t with rfl | ⟨p, d, rfl⟩
  · simp at hc
  · rw [List.concat_eq_append] at *
    simp only [lineB, List.dropLast_concat, Bool.and_eq_true, Bool.not_eq_true'] at h
    have hd : (d == 10) = false := by simpa [K4] using hw
    rcases List.mem_append.1 hc with h1 | h1
    · have : p.contains 10 = true := by simpa using h1
      rw [h.2] at this; cases this
    · simp at h1; subst h1; simp at hd
theorem rowsF_lines : ∀ (l : List Row) (e o c : Bool), rowsF l e o c = true → ∀ r ∈ l, lineB r.t = true
  | [], _, _, _, _, r, h => by simp at h
  | x :: l, e, o, c, h, r, hr => by
    rw [rowsF] at h
    have hb : badR x e o = false := by
      cases hb : badR x e o with
      | false => rfl
      | true => rw [hb] at h; cases h
    rw [hb] at h
    rcases List.mem_cons.1 hr with rfl | hr
    · simp only [badR, Bool.or_eq_false_iff, Bool.not_eq_false'] at hb
      exact hb.1.1.2
    · exact rowsF_lines l _ _ _ (by simpa using h) r hr
theorem dec_no10 : ∀ (u : Nat), ∀ c ∈ Lib.decDigits u, c ≠ 10 := by
  intro u
  induction u using Nat.strongRecOn with
  | ind u ih =>
    intro c hc
    have key : ∀ d : Nat, d < 10 → UInt8.ofNat (48 + d) ≠ 10 := fun d hd e => by
      have := congrArg UInt8.toNat e
      rw [UInt8.toNat_ofNat_of_lt' (show 48 + d < 256 by omega)] at this
      have h10 : UInt8.toNat 10 = 10 := rfl
      omega
    rw [Lib.decDigits] at hc
    split at hc
    · rename_i h
      rw [List.mem_singleton] at hc; subst hc
      exact key u h
    · rcases List.mem_append.1 hc with h1 | h1
      · exact ih (u / 10) (by omega) c h1
      · rw [List.mem_singleton] at h1; subst h1
        exact key (u % 10) (by omega)
theorem span_no10 {a n : Int} (h0 : 0 ≤ a) (h2 : 0 ≤ n) : ∀ c ∈ spanF a n, c ≠ 10 := by
  intro c hc
  unfold spanF at hc
  rw [itoa_dec h0, itoa_dec h2] at hc
  split at hc
  · exact dec_no10 _ c hc
  · simp only [List.mem_append, List.mem_singleton] at hc
    rcases hc with (hc | rfl) | hc
    · exact dec_no10 _ c hc
    · decide
    · exact dec_no10 _ c hc
theorem bareB_end (t : Ln) : bareB (t ++ [10]) = t := by
  unfold bareB
  rw [K8 (by simp), if_pos (by rfl), List.dropLast_concat]
theorem shown_no10 {p s : Ln} (h : L2 p s = true) : ∀ c ∈ J5 p s, c ≠ 10 := by
  simp only [L2, Bool.and_eq_true, Bool.not_eq_true'] at h
  have hs : ∀ c ∈ s, c ≠ 10 := fun c hc e => by
    have : hasB s [9, 10, 0] = true := by
      unfold hasB
      rw [List.any_eq_true]
      exact ⟨c, hc, by subst e; rfl⟩
    rw [h.2] at this; cases this
  intro c hc
  unfold J5 at hc
  split at hc
  · exact quote_no10 c hc
  · simp only [List.mem_append, List.mem_singleton] at hc
    rcases hc with (hc | rfl) | hc
    · exact quote_no10 c hc
    · decide
    · exact hs c hc
end Go.Sv
end
section
namespace Go.Sv
theorem bareB_le (t : Ln) : (bareB t).length ≤ t.length := by
  unfold bareB; split
  · rw [List.length_dropLast]; omega
  · omega
theorem cutF_out (s p : Ln) : (cutF s p).1.length ≤ s.length := by
  unfold cutF; split
  · simp
  · exact Nat.le_refl _
theorem uqL_out : ∀ (n : Nat) (s acc p r : Ln), uqL n s acc = some (p, r) → p.length + r.length ≤ acc.length + s.length
  | 0, s, acc, p, r, h => by simp [uqL] at h
  | n + 1, [], acc, p, r, h => by simp [uqL] at h
  | n + 1, c :: s, acc, p, r, h => by
    rw [uqL.eq_def] at h
    simp only at h
    split at h
    · cases h; simp only [List.length_cons]; omega
    · split at h
      · cases h
      · split at h
        · have := uqL_out n s _ p r h
          simp only [List.length_append, List.length_cons, List.length_nil] at this ⊢; omega
        · split at h
          · cases h
          · rename_i d r1
            split at h
            · have := uqL_out n r1 _ p r h
              simp only [List.length_append, List.length_cons, List.length_nil] at this ⊢; omega
            · split at h
              · rename_i v hv
                have := uqL_out n _ _ p r h
                simp only [List.length_append, List.length_cons, List.length_nil, List.length_drop] at this ⊢; omega
              · cases h
theorem unqF_out {s p r : Ln} (h : unqF s = some (p, r)) : p.length + r.length ≤ s.length := by
  unfold unqF at h
  split at h
  · have := uqL_out _ _ _ p r h
    simp only [List.length_cons, List.length_nil] at this ⊢; omega
  · cases h
    rw [List.length_take, List.length_drop]
    have := nameEnd_le s
    omega
end Go.Sv
end
