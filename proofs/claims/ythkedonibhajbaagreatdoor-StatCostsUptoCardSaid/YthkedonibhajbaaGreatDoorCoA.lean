/- Scripts, the lines that stay, the hunks that are made of a script: as plain data. -/
import Derived.Test.YthkedonibhajbaaGreatDoorHk
set_option linter.unusedVariables false
set_option linter.unusedSimpArgs false
namespace Go.Sv
open Go Go.RowKit
/-- A change of a script that may be. -/
structure NC where
  a : Nat
  n : Nat
  b : Nat
  m : Nat
def chain (N M : Nat) : List NC → Nat → Nat → Prop
  | [], a, b => a ≤ N ∧ b ≤ M ∧ N - a = M - b
  | c :: r, a, b => a ≤ c.a ∧ b ≤ c.b ∧ c.a - a = c.b - b ∧ 0 < c.n + c.m ∧ c.a + c.n ≤ N ∧ c.b + c.m ≤ M ∧ chain N M r (c.a + c.n) (c.b + c.m)
def run : Nat → Nat → Nat → List (Nat × Nat)
  | _, _, 0 => []
  | a, b, k + 1 => (a, b) :: run (a + 1) (b + 1) k
/-- The lines that stay. -/
def prs (N : Nat) : List NC → Nat → Nat → List (Nat × Nat)
  | [], a, b => run a b (N - a)
  | c :: r, a, b => run a b (c.a - a) ++ prs N r (c.a + c.n) (c.b + c.m)
/-- The script of what stays. -/
def ofN (N M : Nat) : List (Nat × Nat) → Nat → Nat → List NC
  | [], a, b => if a < N ∨ b < M then [⟨a, N - a, b, M - b⟩] else []
  | p :: r, a, b => (if a < p.1 ∨ b < p.2 then [⟨a, p.1 - a, b, p.2 - b⟩] else []) ++ ofN N M r (p.1 + 1) (p.2 + 1)
def incr (N M : Nat) : List (Nat × Nat) → Nat → Nat → Prop
  | [], a, b => a ≤ N ∧ b ≤ M
  | p :: r, a, b => a ≤ p.1 ∧ b ≤ p.2 ∧ p.1 < N ∧ p.2 < M ∧ incr N M r (p.1 + 1) (p.2 + 1)
def sumn : List NC → Nat
  | [] => 0
  | c :: r => c.n + sumn r
def summ : List NC → Nat
  | [] => 0
  | c :: r => c.m + summ r
theorem incr_mono {N M : Nat} : ∀ {l : List (Nat × Nat)} {a b a' b' : Nat}, a' ≤ a → b' ≤ b → incr N M l a b → incr N M l a' b'
  | [], a, b, a', b', h1, h2, h => ⟨Nat.le_trans h1 h.1, Nat.le_trans h2 h.2⟩
  | p :: r, a, b, a', b', h1, h2, h => ⟨Nat.le_trans h1 h.1, Nat.le_trans h2 h.2.1, h.2.2⟩
theorem incr_run {N M : Nat} : ∀ (k a b : Nat) (l : List (Nat × Nat)), a + k ≤ N → b + k ≤ M → incr N M l (a + k) (b + k) → incr N M (run a b k ++ l) a b
  | 0, a, b, l, _, _, h => h
  | k + 1, a, b, l, h1, h2, h => ⟨Nat.le_refl _, Nat.le_refl _, by omega, by omega, incr_run k (a + 1) (b + 1) l (by omega) (by omega) (by rw [Nat.add_assoc, Nat.add_comm 1, Nat.add_assoc, Nat.add_comm 1]; exact h)⟩
theorem run_len : ∀ (k a b : Nat), (run a b k).length = k
  | 0, _, _ => rfl
  | k + 1, a, b => by simp [run, run_len k]
theorem prs_facts {N M : Nat} : ∀ (s : List NC) (a b : Nat), chain N M s a b → incr N M (prs N s a b) a b ∧ (prs N s a b).length + sumn s + a = N ∧ (prs N s a b).length + summ s + b = M
  | [], a, b, h => by
    obtain ⟨h1, h2, h3⟩ := h
    refine ⟨?_, ?_, ?_⟩
    · have := incr_run (N := N) (M := M) (N - a) a b [] (by omega) (by omega) ⟨by omega, by omega⟩
      simpa [prs] using this
    · simp only [prs, run_len, sumn]; omega
    · simp only [prs, run_len, summ]; omega
  | c :: r, a, b, h => by
    obtain ⟨h1, h2, h3, h4, h5, h6, h7⟩ := h
    obtain ⟨g1, g2, g3⟩ := prs_facts r _ _ h7
    refine ⟨?_, ?_, ?_⟩
    · exact incr_run (c.a - a) a b _ (by omega) (by omega) (incr_mono (by omega) (by omega) g1)
    · simp only [prs, List.length_append, run_len, sumn]; omega
    · simp only [prs, List.length_append, run_len, summ]; omega
theorem chain_back {N M : Nat} : ∀ {l : List NC} {a b : Nat}, chain N M l (a + 1) (b + 1) → chain N M l a b
  | [], a, b, h => by
    obtain ⟨h1, h2, h3⟩ := h
    exact ⟨by omega, by omega, by omega⟩
  | c :: r, a, b, h => by
    obtain ⟨h1, h2, h3, h4⟩ := h
    exact ⟨by omega, by omega, by omega, h4⟩
theorem ofN_facts {N M : Nat} : ∀ (l : List (Nat × Nat)) (a b : Nat), incr N M l a b → chain N M (ofN N M l a b) a b ∧ l.length + sumn (ofN N M l a b) + a = N ∧ l.length + summ (ofN N M l a b) + b = M
  | [], a, b, h => by
    obtain ⟨h1, h2⟩ := h
    unfold ofN
    by_cases hc : a < N ∨ b < M
    · rw [if_pos hc]
      refine ⟨⟨Nat.le_refl _, Nat.le_refl _, by simp, by show 0 < (N - a) + (M - b); omega, by show a + (N - a) ≤ N; omega, by show b + (M - b) ≤ M; omega, ⟨by show a + (N - a) ≤ N; omega, by show b + (M - b) ≤ M; omega, by show N - (a + (N - a)) = M - (b + (M - b)); omega⟩⟩, ?_, ?_⟩
      · simp only [sumn, List.length_nil]; omega
      · simp only [summ, List.length_nil]; omega
    · rw [if_neg hc]
      exact ⟨⟨h1, h2, by omega⟩, by simp only [sumn, List.length_nil]; omega, by simp only [summ, List.length_nil]; omega⟩
  | p :: r, a, b, h => by
    obtain ⟨h1, h2, h3, h4, h5⟩ := h
    obtain ⟨g1, g2, g3⟩ := ofN_facts r _ _ h5
    unfold ofN
    by_cases hc : a < p.1 ∨ b < p.2
    · rw [if_pos hc]
      have e1 : a + (p.1 - a) = p.1 := by omega
      have e2 : b + (p.2 - b) = p.2 := by omega
      refine ⟨⟨Nat.le_refl _, Nat.le_refl _, by simp, by show 0 < (p.1 - a) + (p.2 - b); omega, by show a + (p.1 - a) ≤ N; omega, by show b + (p.2 - b) ≤ M; omega, ?_⟩, ?_, ?_⟩
      · show chain N M (ofN N M r (p.1 + 1) (p.2 + 1)) (a + (p.1 - a)) (b + (p.2 - b))
        rw [e1, e2]; exact chain_back g1
      · simp only [List.cons_append, List.nil_append, sumn, List.length_cons]; omega
      · simp only [List.cons_append, List.nil_append, summ, List.length_cons]; omega
    · rw [if_neg hc]
      have e1 : p.1 = a := by omega
      have e2 : p.2 = b := by omega
      rw [e1, e2] at g1 g2 g3 ⊢
      refine ⟨chain_back g1, ?_, ?_⟩
      · simp only [List.nil_append, List.length_cons]; omega
      · simp only [List.nil_append, List.length_cons]; omega
/-- The script of the same meaning: as long. -/
def normN (N M : Nat) (s : List NC) : List NC := ofN N M (prs N s 0 0) 0 0
theorem norm_facts {N M : Nat} {s : List NC} (h : chain N M s 0 0) : chain N M (normN N M s) 0 0 ∧ sumn (normN N M s) = sumn s ∧ summ (normN N M s) = summ s := by
  obtain ⟨g1, g2, g3⟩ := prs_facts s 0 0 h
  obtain ⟨k1, k2, k3⟩ := ofN_facts _ 0 0 g1
  exact ⟨k1, by unfold normN; omega, by unfold normN; omega⟩

/-! ### Rows -/
def seg {α : Type} (A : List α) (x y : Nat) : List α := (A.take y).drop x
def kindR (k : Int) (l : List (List UInt8)) : List Row := l.map fun t => ⟨k, t⟩
def rowsN (A B : List (List UInt8)) : List NC → Nat → Nat → List Row
  | [], at_, z => kindR 1 (seg A at_ z)
  | c :: r, at_, z => kindR 1 (seg A at_ c.a) ++ (kindR 2 (seg A c.a (c.a + c.n)) ++ (kindR 3 (seg B c.b (c.b + c.m)) ++ rowsN A B r (c.a + c.n) z))
def stR : List Row → Bool → Bool → Bool → Option (Bool × Bool × Bool)
  | [], e, o, c => some (e, o, c)
  | r :: l, e, o, c => if badR r e o = true then none else stR l (e || (!wholeB r.t && isOld r.k)) (o || (!wholeB r.t && isNew r.k)) (c || !(r.k == 1))
theorem rowsF_st : ∀ (l : List Row) (e o c : Bool), rowsF l e o c = match stR l e o c with
    | some (_, _, c') => c'
    | none => false
  | [], e, o, c => rfl
  | r :: l, e, o, c => by
    unfold rowsF stR
    split
    · rfl
    · exact rowsF_st l _ _ _
theorem stR_app : ∀ (l k : List Row) (e o c e' o' c' : Bool), stR l e o c = some (e', o', c') → stR (l ++ k) e o c = stR k e' o' c'
  | [], k, e, o, c, e', o', c', h => by simp only [stR, Option.some.injEq, Prod.mk.injEq] at h; obtain ⟨rfl, rfl, rfl⟩ := h; rfl
  | r :: l, k, e, o, c, e', o', c', h => by
    rw [List.cons_append]
    unfold stR at h ⊢
    split at h
    · cases h
    · rename_i hb
      rw [if_neg hb, stR_app l k _ _ _ _ _ _ h]
      cases k <;> rfl
/-- Lines of a text. -/
def okT (A : List (List UInt8)) : Prop := ∀ (i : Nat) t, A[i]? = some t → lineB t = true ∧ (i + 1 < A.length → wholeB t = true)
def Inv (A B : List (List UInt8)) (x y : Nat) (e o : Bool) : Prop := (e = true → x = A.length) ∧ (o = true → y = B.length)
def W (A B : List (List UInt8)) (x y : Nat) : Prop := ∀ t u, A[x]? = some t → B[y]? = some u → wholeB t = wholeB u
theorem seg_nil {α : Type} (A : List α) (x : Nat) : seg A x x = [] := by
  unfold seg
  rw [List.drop_eq_nil_iff, List.length_take]; omega
theorem seg_cons {α : Type} {A : List α} {x y : Nat} {t : α} (h : A[x]? = some t) (hy : x < y) : seg A x y = t :: seg A (x + 1) y := by
  unfold seg
  have hx : (A.take y)[x]? = some t := by rw [List.getElem?_take, if_pos hy]; exact h
  have hl := (List.getElem?_eq_some_iff.1 hx).1
  rw [List.drop_eq_getElem_cons hl]
  congr 1
  exact (List.getElem?_eq_some_iff.1 hx).2
theorem seg_len {α : Type} {A : List α} {x y : Nat} (h : y ≤ A.length) : (seg A x y).length = y - x := by
  unfold seg
  rw [List.length_drop, List.length_take]; omega
theorem wholeLast {A : List (List UInt8)} (hA : okT A) {x : Nat} {t : List UInt8} (h : A[x]? = some t) (hw : wholeB t = false) : x + 1 = A.length := by
  have hl := (List.getElem?_eq_some_iff.1 h).1
  have := (hA x t h).2
  by_cases g : x + 1 < A.length
  · rw [this g] at hw; cases hw
  · omega
theorem st_both {A B : List (List UInt8)} (hA : okT A) (hB : okT B) : ∀ (k x y : Nat) (e o c : Bool), Inv A B x y e o → x + k ≤ A.length → y + k ≤ B.length → (∀ i, i < k → W A B (x + i) (y + i)) → ∃ e' o', stR (kindR 1 (seg A x (x + k))) e o c = some (e', o', c) ∧ Inv A B (x + k) (y + k) e' o'
  | 0, x, y, e, o, c, hI, _, _, _ => ⟨e, o, by rw [Nat.add_zero, seg_nil]; rfl, hI⟩
  | k + 1, x, y, e, o, c, hI, h1, h2, hW => by
    have gx : A[x]? = some (A[x]'(by omega)) := List.getElem?_eq_getElem _
    have gy : B[y]? = some (B[y]'(by omega)) := List.getElem?_eq_getElem _
    generalize A[x]'(by omega) = t at gx
    generalize B[y]'(by omega) = u at gy
    have hw := hW 0 (by omega) t u gx gy
    have he : e = false := by
      cases e with
      | false => rfl
      | true => have := hI.1 rfl; omega
    have ho : o = false := by
      cases o with
      | false => rfl
      | true => have := hI.2 rfl; omega
    subst he; subst ho
    have hl := (hA x t gx).1
    obtain ⟨e', o', g1, g2⟩ := st_both hA hB k (x + 1) (y + 1) (!wholeB t) (!wholeB t) c ⟨fun h => wholeLast hA gx (by simpa using h), fun h => wholeLast hB gy (by rw [← hw]; simpa using h)⟩ (by omega) (by omega) (fun i hi => by
      have := hW (i + 1) (by omega)
      rwa [show x + (i + 1) = x + 1 + i by omega, show y + (i + 1) = y + 1 + i by omega] at this)
    refine ⟨e', o', ?_, by rw [show x + (k + 1) = x + 1 + k by omega, show y + (k + 1) = y + 1 + k by omega]; exact g2⟩
    rw [seg_cons gx (by omega), show x + (k + 1) = x + 1 + k by omega]
    show stR (⟨1, t⟩ :: kindR 1 (seg A (x + 1) (x + 1 + k))) false false c = _
    have hb : badR ⟨1, t⟩ false false = false := by simp [badR, isOld, isNew, hl]
    unfold stR
    rw [hb, if_neg (by decide)]
    simpa [isOld, isNew] using g1
theorem st_old {A B : List (List UInt8)} (hA : okT A) : ∀ (k x y : Nat) (e o c : Bool), Inv A B x y e o → x + k ≤ A.length → ∃ e', stR (kindR 2 (seg A x (x + k))) e o c = some (e', o, c || decide (0 < k)) ∧ Inv A B (x + k) y e' o
  | 0, x, y, e, o, c, hI, _ => ⟨e, by rw [Nat.add_zero, seg_nil]; simp [kindR, stR], hI⟩
  | k + 1, x, y, e, o, c, hI, h1 => by
    have gx : A[x]? = some (A[x]'(by omega)) := List.getElem?_eq_getElem _
    generalize A[x]'(by omega) = t at gx
    have he : e = false := by
      cases e with
      | false => rfl
      | true => have := hI.1 rfl; omega
    subst he
    have hl := (hA x t gx).1
    obtain ⟨e', g1, g2⟩ := st_old hA k (x + 1) y (!wholeB t) o true ⟨fun h => wholeLast hA gx (by simpa using h), hI.2⟩ (by omega)
    refine ⟨e', ?_, by rw [show x + (k + 1) = x + 1 + k by omega]; exact g2⟩
    rw [seg_cons gx (by omega), show x + (k + 1) = x + 1 + k by omega]
    show stR (⟨2, t⟩ :: kindR 2 (seg A (x + 1) (x + 1 + k))) false o c = _
    have hb : badR ⟨2, t⟩ false o = false := by simp [badR, isOld, isNew, hl]
    unfold stR
    rw [hb, if_neg (by decide)]
    simpa [isOld, isNew] using g1
theorem st_new {A B : List (List UInt8)} (hB : okT B) : ∀ (k x y : Nat) (e o c : Bool), Inv A B x y e o → y + k ≤ B.length → ∃ o', stR (kindR 3 (seg B y (y + k))) e o c = some (e, o', c || decide (0 < k)) ∧ Inv A B x (y + k) e o'
  | 0, x, y, e, o, c, hI, _ => ⟨o, by rw [Nat.add_zero, seg_nil]; simp [kindR, stR], hI⟩
  | k + 1, x, y, e, o, c, hI, h1 => by
    have gx : B[y]? = some (B[y]'(by omega)) := List.getElem?_eq_getElem _
    generalize B[y]'(by omega) = t at gx
    have he : o = false := by
      cases o with
      | false => rfl
      | true => have := hI.2 rfl; omega
    subst he
    have hl := (hB y t gx).1
    obtain ⟨o', g1, g2⟩ := st_new hB k x (y + 1) e (!wholeB t) true ⟨hI.1, fun h => wholeLast hB gx (by simpa using h)⟩ (by omega)
    refine ⟨o', ?_, by rw [show y + (k + 1) = y + 1 + k by omega]; exact g2⟩
    rw [seg_cons gx (by omega), show y + (k + 1) = y + 1 + k by omega]
    show stR (⟨3, t⟩ :: kindR 3 (seg B (y + 1) (y + 1 + k))) e false c = _
    have hb : badR ⟨3, t⟩ e false = false := by simp [badR, isOld, isNew, hl]
    unfold stR
    rw [hb, if_neg (by decide)]
    simpa [isOld, isNew] using g1
/-- A group of changes, from a line on up to another one. -/
def hkc (A B : List (List UInt8)) : List NC → Nat → Nat → Nat → Prop
  | [], x, y, z => x ≤ z ∧ z ≤ A.length ∧ y + (z - x) ≤ B.length ∧ ∀ i, i < z - x → W A B (x + i) (y + i)
  | c :: r, x, y, z => x ≤ c.a ∧ y ≤ c.b ∧ c.a - x = c.b - y ∧ (∀ i, i < c.a - x → W A B (x + i) (y + i)) ∧ 0 < c.n + c.m ∧ c.a + c.n ≤ A.length ∧ c.b + c.m ≤ B.length ∧ hkc A B r (c.a + c.n) (c.b + c.m) z
theorem st_rows {A B : List (List UInt8)} (hA : okT A) (hB : okT B) : ∀ (g : List NC) (x y z : Nat) (e o c : Bool), hkc A B g x y z → Inv A B x y e o → ∃ e' o', stR (rowsN A B g x z) e o c = some (e', o', c || !g.isEmpty)
  | [], x, y, z, e, o, c, h, hI => by
    obtain ⟨h1, h2, h3, h4⟩ := h
    obtain ⟨e', o', g1, g2⟩ := st_both hA hB (z - x) x y e o c hI (by omega) h3 h4
    refine ⟨e', o', ?_⟩
    rw [show x + (z - x) = z by omega] at g1
    simpa [rowsN] using g1
  | c0 :: r, x, y, z, e, o, c, h, hI => by
    obtain ⟨h1, h2, h3, h4, h5, h6, h7, h8⟩ := h
    obtain ⟨e1, o1, g1, i1⟩ := st_both hA hB (c0.a - x) x y e o c hI (by omega) (by omega) h4
    rw [show x + (c0.a - x) = c0.a by omega] at g1 i1
    rw [show y + (c0.a - x) = c0.b by omega] at i1
    obtain ⟨e2, g2, i2⟩ := st_old hA c0.n c0.a c0.b e1 o1 c i1 h6
    obtain ⟨o3, g3, i3⟩ := st_new hB c0.m (c0.a + c0.n) c0.b e2 o1 (c || decide (0 < c0.n)) i2 h7
    obtain ⟨e4, o4, g4⟩ := st_rows hA hB r _ _ z e2 o3 ((c || decide (0 < c0.n)) || decide (0 < c0.m)) h8 i3
    refine ⟨e4, o4, ?_⟩
    unfold rowsN
    rw [stR_app _ _ _ _ _ _ _ _ g1, stR_app _ _ _ _ _ _ _ _ g2, stR_app _ _ _ _ _ _ _ _ g3, g4]
    have : ((c || decide (0 < c0.n)) || decide (0 < c0.m)) = true := by
      rw [Bool.or_eq_true, Bool.or_eq_true, decide_eq_true_eq, decide_eq_true_eq]; omega
    rw [this]
    simp
theorem cntF_app (f : Int → Bool) : ∀ (l k : List Row) (n : Int), cntF f (l ++ k) n = cntF f k (cntF f l n)
  | [], k, n => rfl
  | r :: l, k, n => by rw [List.cons_append, cntF, cntF, cntF_app f l k]
theorem cntF_kind (f : Int → Bool) (k : Int) : ∀ (l : List (List UInt8)) (n : Int), 0 ≤ n → n + l.length ≤ 9223372036854775807 → cntF f (kindR k l) n = if f k = true then n + l.length else n
  | [], n, _, _ => by simp [kindR, cntF]
  | t :: l, n, h0, h1 => by
    show cntF f (⟨k, t⟩ :: kindR k l) n = _
    simp only [List.length_cons] at h1 ⊢
    unfold cntF
    by_cases hf : f k = true
    · rw [if_pos hf, if_pos hf, wrap_i64 (by omega) (by omega), cntF_kind f k l (n + 1) (by omega) (by omega), if_pos hf]; push_cast; omega
    · rw [if_neg hf, if_neg hf, cntF_kind f k l n h0 (by omega), if_neg hf]
theorem rows_len {A B : List (List UInt8)} : ∀ (g : List NC) (x y z : Nat), hkc A B g x y z → (rowsN A B g x z).length + x + y ≤ A.length + B.length ∧ x ≤ z
  | [], x, y, z, h => by
    obtain ⟨h1, h2, h3, h4⟩ := h
    simp only [rowsN, kindR, List.length_map, seg_len h2]
    omega
  | c :: r, x, y, z, h => by
    obtain ⟨h1, h2, h3, h4, h5, h6, h7, h8⟩ := h
    obtain ⟨g1, g2⟩ := rows_len r _ _ z h8
    simp only [rowsN, kindR, List.length_append, List.length_map]
    rw [seg_len (show c.a ≤ A.length by omega), seg_len h6, seg_len h7]
    omega
/-- What the rows of a group come to. -/
theorem rows_cnt {A B : List (List UInt8)} (hl : A.length + B.length ≤ 4294967296) : ∀ (g : List NC) (x y z : Nat) (n m : Int), hkc A B g x y z → 0 ≤ n → n + sumn g ≤ 4294967296 → 0 ≤ m → m + summ g ≤ 4294967296 →
    cntF (fun k => k == 2) (rowsN A B g x z) n = n + sumn g ∧ cntF (fun k => k == 3) (rowsN A B g x z) m = m + summ g
  | [], x, y, z, n, m, h, n0, n1, m0, m1 => by
    obtain ⟨h1, h2, h3, h4⟩ := h
    have e := seg_len (x := x) h2
    simp only [sumn, summ] at n1 m1
    simp only [rowsN, sumn, summ]
    rw [cntF_kind _ _ _ _ n0 (by omega), cntF_kind _ _ _ _ m0 (by omega)]
    simp
  | c :: r, x, y, z, n, m, h, n0, n1, m0, m1 => by
    obtain ⟨h1, h2, h3, h4, h5, h6, h7, h8⟩ := h
    have e1 := seg_len (x := x) (show c.a ≤ A.length by omega)
    have e2 := seg_len (x := c.a) h6
    have e3 := seg_len (x := c.b) h7
    simp only [sumn, summ] at n1 m1
    obtain ⟨g1, g2⟩ := rows_cnt hl r _ _ z (n + c.n) (m + c.m) h8 (by omega) (by omega) (by omega) (by omega)
    simp only [rowsN, sumn, summ, cntF_app]
    have k1 := cntF_kind (fun k => k == 2) 1 (seg A x c.a) n n0 (by omega)
    have k2 := cntF_kind (fun k => k == 2) 2 (seg A c.a (c.a + c.n)) n n0 (by omega)
    have k3 := cntF_kind (fun k => k == 2) 3 (seg B c.b (c.b + c.m)) (n + c.n) (by omega) (by omega)
    have j1 := cntF_kind (fun k => k == 3) 1 (seg A x c.a) m m0 (by omega)
    have j2 := cntF_kind (fun k => k == 3) 2 (seg A c.a (c.a + c.n)) m m0 (by omega)
    have j3 := cntF_kind (fun k => k == 3) 3 (seg B c.b (c.b + c.m)) m m0 (by omega)
    rw [if_neg (by decide)] at k1 k3 j1 j2
    rw [if_pos (by decide), e2, show ((c.a + c.n - c.a : Nat) : Int) = c.n by omega] at k2
    rw [if_pos (by decide), e3, show ((c.b + c.m - c.b : Nat) : Int) = c.m by omega] at j3
    rw [k1, k2, k3, g1, j1, j2, j3, g2]
    push_cast
    omega
/-! ### Hunks -/
/-- What stays and what goes, from a place on; whole lines stay whole. -/
def chW (A B : List (List UInt8)) : List NC → Nat → Nat → Prop
  | [], a, b => a ≤ A.length ∧ b ≤ B.length ∧ A.length - a = B.length - b ∧ ∀ i, i < A.length - a → W A B (a + i) (b + i)
  | c :: r, a, b => a ≤ c.a ∧ b ≤ c.b ∧ c.a - a = c.b - b ∧ (∀ i, i < c.a - a → W A B (a + i) (b + i)) ∧ 0 < c.n + c.m ∧ c.a + c.n ≤ A.length ∧ c.b + c.m ≤ B.length ∧ chW A B r (c.a + c.n) (c.b + c.m)
theorem run_mem : ∀ (k a b i : Nat), i < k → (a + i, b + i) ∈ run a b k
  | 0, a, b, i, h => by omega
  | k + 1, a, b, 0, h => by simp [run]
  | k + 1, a, b, i + 1, h => by
    have := run_mem k (a + 1) (b + 1) i (by omega)
    rw [show a + 1 + i = a + (i + 1) by omega, show b + 1 + i = b + (i + 1) by omega] at this
    exact List.mem_cons_of_mem _ this
theorem chW_of {A B : List (List UInt8)} : ∀ (t : List NC) (a b : Nat), chain A.length B.length t a b → (∀ p ∈ prs A.length t a b, W A B p.1 p.2) → chW A B t a b
  | [], a, b, h, hp => by
    obtain ⟨h1, h2, h3⟩ := h
    exact ⟨h1, h2, h3, fun i hi => hp _ (run_mem _ a b i hi)⟩
  | c :: r, a, b, h, hp => by
    obtain ⟨h1, h2, h3, h4, h5, h6, h7⟩ := h
    exact ⟨h1, h2, h3, fun i hi => hp _ (List.mem_append_left _ (run_mem _ a b i hi)), h4, h5, h6, chW_of r _ _ h7 fun p h => hp p (List.mem_append_right _ h)⟩
def lastEnd : List NC → Nat → Nat
  | [], x => x
  | c :: r, _ => lastEnd r (c.a + c.n)
def toOK (A : List (List UInt8)) (rest : List NC) (x z : Nat) : Prop := x ≤ z ∧ match rest with
  | [] => z ≤ A.length
  | c :: _ => z ≤ c.a
theorem hkc_of {A B : List (List UInt8)} : ∀ (g rest : List NC) (x y z : Nat), chW A B (g ++ rest) x y → toOK A rest (lastEnd g x) z → hkc A B g x y z
  | [], [], x, y, z, h, hz => by
    obtain ⟨h1, h2, h3, h4⟩ := h
    obtain ⟨z1, z2⟩ := hz
    simp only [lastEnd] at z1 z2
    exact ⟨z1, z2, by omega, fun i hi => h4 i (by omega)⟩
  | [], c :: r, x, y, z, h, hz => by
    obtain ⟨h1, h2, h3, h4, h5, h6, h7, h8⟩ := h
    obtain ⟨z1, z2⟩ := hz
    simp only [lastEnd] at z1 z2
    exact ⟨z1, by omega, by omega, fun i hi => h4 i (by omega)⟩
  | c :: g, rest, x, y, z, h, hz => by
    obtain ⟨h1, h2, h3, h4, h5, h6, h7, h8⟩ := h
    exact ⟨h1, h2, h3, h4, h5, h6, h7, hkc_of g rest _ _ z h8 hz⟩
/-- From a later place in the same gap on. -/
theorem chW_later {A B : List (List UInt8)} {c : NC} {r : List NC} {a b d : Nat} (h : chW A B (c :: r) a b) (hd : a + d ≤ c.a) : chW A B (c :: r) (a + d) (b + d) := by
  obtain ⟨h1, h2, h3, h4, h5, h6, h7, h8⟩ := h
  exact ⟨hd, by omega, by omega, fun i hi => by rw [Nat.add_assoc, Nat.add_assoc]; exact h4 (d + i) (by omega), h5, h6, h7, h8⟩
def stated (p : Nat) (n : Int) : Int := if n > 0 then (p : Int) + 1 else p
def hunkN (A B : List (List UInt8)) (g : List NC) (x y z : Nat) : Hnk :=
  ⟨stated x (cntF isOld (rowsN A B g x z) 0), cntF isOld (rowsN A B g x z) 0, stated y (cntF isNew (rowsN A B g x z) 0), cntF isNew (rowsN A B g x z) 0, [], rowsN A B g x z⟩
theorem hunk_valid {A B : List (List UInt8)} (hA : okT A) (hB : okT B) (hl : A.length + B.length ≤ 2097152) {g : List NC} (hg : g ≠ []) {x y z : Nat} (h : hkc A B g x y z) : validF (hunkN A B g x y z) = true := by
  obtain ⟨l1, l2⟩ := rows_len g x y z h
  have hz : z ≤ A.length ∧ y ≤ B.length := by
    cases g with
    | nil => exact absurd rfl hg
    | cons c r =>
      obtain ⟨h1, h2, h3, h4, h5, h6, h7, h8⟩ := h
      refine ⟨?_, by omega⟩
      clear h4
      generalize c.a + c.n = p at *
      generalize c.b + c.m = q at *
      clear hg h1 h2 h3 h5 l1
      induction r generalizing p q with
      | nil => exact h8.2.1
      | cons d r ih =>
        obtain ⟨k1, k2, k3, k4, k5, k6, k7, k8⟩ := h8
        exact ih _ k6 _ k7 k8
  obtain ⟨e', o', hs⟩ := st_rows hA hB g x y z false false false h ⟨nofun, nofun⟩
  have c1 := cntF_le isOld (rowsN A B g x z) 0 (by omega) (by omega)
  have c2 := cntF_le isNew (rowsN A B g x z) 0 (by omega) (by omega)
  have hr : rowsF (rowsN A B g x z) false false false = true := by
    rw [rowsF_st, hs]
    cases g with
    | nil => exact absurd rfl hg
    | cons c r => rfl
  have st : ∀ (p : Nat) (n : Int), 0 ≤ n → n ≤ 2097152 → p ≤ 2097152 → startB (stated p n) n = true := by
    intro p n h0 h1 hp
    unfold startB stated
    rw [wrap_i64 (by omega) (by omega), Bool.and_eq_true, decide_eq_true_eq, decide_eq_true_eq]
    constructor
    · split <;> split <;> omega
    · split <;> omega
  unfold validF hunkN
  simp only [hr, st x _ c1.1 (by omega) (by omega), st y _ c2.1 (by omega) (by omega)]
  simp
def lastEndB : List NC → Nat → Nat
  | [], y => y
  | c :: r, _ => lastEndB r (c.b + c.m)
theorem chW_tail {A B : List (List UInt8)} : ∀ (g rest : List NC) (x y : Nat), chW A B (g ++ rest) x y → chW A B rest (lastEnd g x) (lastEndB g y)
  | [], rest, x, y, h => h
  | c :: g, rest, x, y, h => chW_tail g rest _ _ h.2.2.2.2.2.2.2
theorem chW_end {A B : List (List UInt8)} : ∀ (r : List NC) (x y : Nat), chW A B r x y → x ≤ A.length ∧ y ≤ B.length
  | [], x, y, h => ⟨h.1, h.2.1⟩
  | c :: r, x, y, h => by
    obtain ⟨h1, h2, h3, h4, h5, h6, h7, h8⟩ := h
    omega
def oneN (A B : List (List UInt8)) (ctx : Nat) (g : List NC) : Hnk := match g with
  | [] => ⟨0, 0, 0, 0, [], []⟩
  | c :: _ => hunkN A B g (c.a - ctx) (c.b - (c.a - (c.a - ctx))) (lastEnd g 0 + min ctx (A.length - lastEnd g 0))
def hunksN (A B : List (List UInt8)) (ctx : Nat) : List NC → List NC → List Hnk
  | cur, [] => [oneN A B ctx cur]
  | cur, c :: r => if c.a - lastEnd cur 0 > 2 * ctx then oneN A B ctx cur :: hunksN A B ctx [c] r else hunksN A B ctx (cur ++ [c]) r
def far (ctx e : Nat) : List NC → Prop
  | [] => True
  | c :: _ => c.a - e > 2 * ctx
/-- A group of changes that ends where the next one is far. -/
theorem one_hk {A B : List (List UInt8)} {ctx : Nat} {c : NC} {r rest : List NC} {pa pb : Nat} (h : chW A B ((c :: r) ++ rest) pa pb) (hs : pa ≤ c.a - ctx) (hz : far ctx (lastEnd (c :: r) 0) rest) : hkc A B (c :: r) (c.a - ctx) (c.b - (c.a - (c.a - ctx))) (lastEnd (c :: r) 0 + min ctx (A.length - lastEnd (c :: r) 0)) ∧ c.a - (c.a - ctx) ≤ c.b := by
  have hh := h
  obtain ⟨h1, h2, h3, h4, h5, h6, h7, h8⟩ := hh
  have hx : pa + (c.a - ctx - pa) = c.a - ctx := by omega
  have hlater := chW_later (d := c.a - ctx - pa) h (by omega)
  rw [hx] at hlater
  have hy : pb + (c.a - ctx - pa) = c.b - (c.a - (c.a - ctx)) := by omega
  rw [hy] at hlater
  have ht := chW_tail (c :: r) rest pa pb h
  have he : lastEnd (c :: r) pa = lastEnd (c :: r) 0 := rfl
  have hx2 : lastEnd (c :: r) (c.a - ctx) = lastEnd (c :: r) 0 := rfl
  rw [he] at ht
  obtain ⟨z1, _⟩ := chW_end rest _ _ ht
  refine ⟨?_, by omega⟩
  refine hkc_of (c :: r) rest _ _ _ hlater ?_
  rw [hx2]
  refine ⟨by omega, ?_⟩
  cases rest with
  | nil => show _ ≤ _; omega
  | cons d q =>
    have hz' : d.a - lastEnd (c :: r) 0 > 2 * ctx := hz
    show _ ≤ d.a; omega
theorem one_ok {A B : List (List UInt8)} (hA : okT A) (hB : okT B) (hl : A.length + B.length ≤ 2097152) {ctx : Nat} {g rest : List NC} (hg : g ≠ []) {pa pb : Nat} (h : chW A B (g ++ rest) pa pb) (hs : ∀ c, g.head? = some c → pa ≤ c.a - ctx) (hz : far ctx (lastEnd g 0) rest) : (validF (oneN A B ctx g) = true ∧ ∃ x y z, hkc A B g x y z ∧ oneN A B ctx g = hunkN A B g x y z) ∧ ∀ n m : Int, 0 ≤ n → n + sumn g ≤ 4294967296 → 0 ≤ m → m + summ g ≤ 4294967296 → cntF (fun k => k == 2) (oneN A B ctx g).rows n = n + sumn g ∧ cntF (fun k => k == 3) (oneN A B ctx g).rows m = m + summ g := by
  cases g with
  | nil => exact absurd rfl hg
  | cons c r =>
    obtain ⟨hk, _⟩ := one_hk h (hs c rfl) hz
    exact ⟨⟨hunk_valid hA hB hl hg hk, _, _, _, hk, rfl⟩, fun n m n0 n1 m0 m1 => rows_cnt (by omega) (c :: r) _ _ _ n m hk n0 n1 m0 m1⟩
theorem lastEnd_app : ∀ (g : List NC) (c : NC) (x : Nat), lastEnd (g ++ [c]) x = c.a + c.n
  | [], c, x => rfl
  | d :: g, c, x => lastEnd_app g c _
theorem sum_app : ∀ (g r : List NC), sumn (g ++ r) = sumn g + sumn r ∧ summ (g ++ r) = summ g + summ r
  | [], r => by simp [sumn, summ]
  | c :: g, r => by
    obtain ⟨h1, h2⟩ := sum_app g r
    simp only [List.cons_append, sumn, summ]
    omega
def totF (f : Int → Bool) : List Hnk → Int → Int
  | [], a => a
  | h :: l, a => totF f l (cntF f h.rows a)
theorem hunks_ok {A B : List (List UInt8)} (hA : okT A) (hB : okT B) (hl : A.length + B.length ≤ 2097152) (ctx : Nat) : ∀ (rest cur : List NC) (pa pb : Nat), cur ≠ [] → chW A B (cur ++ rest) pa pb → (∀ c, cur.head? = some c → pa ≤ c.a - ctx) →
    (∀ h ∈ hunksN A B ctx cur rest, validF h = true ∧ ∃ g x y z, hkc A B g x y z ∧ h = hunkN A B g x y z) ∧ ∀ n m : Int, 0 ≤ n → n + sumn (cur ++ rest) ≤ 4294967296 → 0 ≤ m → m + summ (cur ++ rest) ≤ 4294967296 →
      totF (fun k => k == 2) (hunksN A B ctx cur rest) n = n + sumn (cur ++ rest) ∧ totF (fun k => k == 3) (hunksN A B ctx cur rest) m = m + summ (cur ++ rest)
  | [], cur, pa, pb, hc, h, hs => by
    obtain ⟨g1, g2⟩ := one_ok hA hB hl hc h hs trivial
    rw [List.append_nil]
    refine ⟨fun h hh => ?_, fun n m n0 n1 m0 m1 => ?_⟩
    · rw [hunksN, List.mem_singleton] at hh
      rw [hh]; exact ⟨g1.1, cur, g1.2⟩
    · exact g2 n m n0 n1 m0 m1
  | c :: r, cur, pa, pb, hc, h, hs => by
    unfold hunksN
    by_cases hg : c.a - lastEnd cur 0 > 2 * ctx
    · rw [if_pos hg]
      obtain ⟨g1, g2⟩ := one_ok hA hB hl hc h hs hg
      have ht := chW_tail cur (c :: r) pa pb h
      have he : lastEnd cur pa = lastEnd cur 0 := by cases cur with
        | nil => exact absurd rfl hc
        | cons d q => rfl
      rw [he] at ht
      obtain ⟨i1, i2⟩ := hunks_ok hA hB hl ctx r [c] _ _ (by simp) ht (fun d hd => by simp at hd; subst hd; omega)
      refine ⟨fun h hh => ?_, fun n m n0 n1 m0 m1 => ?_⟩
      · rcases List.mem_cons.1 hh with rfl | hh
        · exact ⟨g1.1, cur, g1.2⟩
        · exact i1 h hh
      · obtain ⟨s1, s2⟩ := sum_app cur (c :: r)
        rw [s1] at n1
        rw [s2] at m1
        obtain ⟨k1, k2⟩ := g2 n m n0 (by omega) m0 (by omega)
        simp only [totF]
        rw [k1, k2]
        obtain ⟨j1, j2⟩ := i2 (n + sumn cur) (m + summ cur) (by omega) (by show _ + ((sumn (c :: r) : Nat) : Int) ≤ _; push_cast at *; omega) (by omega) (by show _ + ((summ (c :: r) : Nat) : Int) ≤ _; push_cast at *; omega)
        rw [j1, j2, s1, s2]
        simp only [List.cons_append, List.nil_append]
        push_cast
        omega
    · rw [if_neg hg]
      have e : cur ++ c :: r = (cur ++ [c]) ++ r := by simp
      rw [e] at h ⊢
      refine hunks_ok hA hB hl ctx r (cur ++ [c]) pa pb (by simp) h fun d hd => hs d ?_
      cases cur with
      | nil => exact absurd rfl hc
      | cons x q => simpa using hd
theorem seg_mem {α : Type} {A : List α} {x y : Nat} {t : α} (h : t ∈ seg A x y) : t ∈ A := List.mem_of_mem_take (List.mem_of_mem_drop h)
theorem rows_mem {A B : List (List UInt8)} : ∀ (g : List NC) (x z : Nat) (r : Row), r ∈ rowsN A B g x z → r.t ∈ A ∨ r.t ∈ B
  | [], x, z, r, h => by
    obtain ⟨t, ht, rfl⟩ := List.mem_map.1 h
    exact .inl (seg_mem ht)
  | c :: g, x, z, r, h => by
    unfold rowsN at h
    rcases List.mem_append.1 h with h | h
    · obtain ⟨t, ht, rfl⟩ := List.mem_map.1 h
      exact .inl (seg_mem ht)
    rcases List.mem_append.1 h with h | h
    · obtain ⟨t, ht, rfl⟩ := List.mem_map.1 h
      exact .inl (seg_mem ht)
    rcases List.mem_append.1 h with h | h
    · obtain ⟨t, ht, rfl⟩ := List.mem_map.1 h
      exact .inr (seg_mem ht)
    · exact rows_mem g _ z r h
end Go.Sv
