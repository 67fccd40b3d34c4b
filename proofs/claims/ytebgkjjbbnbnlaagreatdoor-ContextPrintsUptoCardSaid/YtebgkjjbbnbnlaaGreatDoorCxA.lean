/- Context diffs, printed: as plain lists. The marks of the program are the marks of the document. -/
import Derived.Test.YtebgkjjbbnbnlaaGreatDoorUnE
set_option linter.unusedVariables false
set_option linter.unusedSimpArgs false
set_option maxRecDepth 100000
namespace Go.Sv
theorem drop_consx {α : Type} {xs : List α} {k : Nat} {c : α} (h : xs[k]? = some c) : xs.drop k = c :: xs.drop (k + 1) := by
  have hlt := (List.getElem?_eq_some_iff.1 h).1
  rw [List.drop_eq_getElem_cons hlt]
  rw [List.getElem?_eq_getElem hlt] at h
  cases h; rfl
def runN : List Row → Nat
  | [] => 0
  | r :: l => if r.k = 1 then 0 else runN l + 1
def runHas (k : Int) : List Row → Bool
  | [] => false
  | r :: l => if r.k = 1 then false else (r.k == k) || runHas k l
def markR (o f : Bool) (k : Int) : UInt8 := if (o && f) = true then 33 else if k = 2 then 45 else 43
def marksF : Nat → List Row → List UInt8
  | 0, _ => []
  | _ + 1, [] => []
  | n + 1, r :: l => if r.k = 1 then 32 :: marksF n l else ((r :: l).take (runN (r :: l))).map (fun x => markR (runHas 2 (r :: l)) (runHas 3 (r :: l)) x.k) ++ marksF n ((r :: l).drop (runN (r :: l)))
def startF (l : List Row) : Nat → Nat
  | 0 => 0
  | i + 1 => match l[i]? with
    | some r => if r.k = 1 then i + 1 else startF l i
    | none => i + 1
def bothF (l : List Row) (i : Nat) : Bool := runHas 2 (l.drop (startF l i)) && runHas 3 (l.drop (startF l i))
def markAt (l : List Row) (i : Nat) (k : Int) : UInt8 := if k = 1 then 32 else markR (bothF l i) true k
theorem runN_le : ∀ l : List Row, runN l ≤ l.length
  | [] => Nat.le_refl _
  | r :: l => by
    have := runN_le l
    unfold runN; split
    · omega
    · simp only [List.length_cons]; omega
theorem runN_no : ∀ (l : List Row) (i : Nat) (r : Row), i < runN l → l[i]? = some r → r.k ≠ 1
  | [], i, r, h, _ => by simp [runN] at h
  | x :: l, i, r, h, hr => by
    unfold runN at h
    split at h
    · omega
    · rename_i hx
      cases i with
      | zero => simp at hr; subst hr; exact hx
      | succ i => exact runN_no l i r (by omega) (by simpa using hr)
theorem runN_stop : ∀ (l : List Row), l.drop (runN l) = [] ∨ ∃ r q, l.drop (runN l) = r :: q ∧ r.k = 1
  | [] => .inl rfl
  | x :: l => by
    unfold runN
    split
    · rename_i h; exact .inr ⟨x, l, rfl, h⟩
    · exact runN_stop l
theorem startF_in (pre l : List Row) (hp : pre = [] ∨ ∃ q x, pre = q ++ [x] ∧ x.k = 1) : ∀ i, i ≤ runN l → startF (pre ++ l) (pre.length + i) = pre.length
  | 0, _ => by
    rcases hp with rfl | ⟨q, x, rfl, hx⟩
    · rfl
    · have e : (q ++ [x]).length + 0 = q.length + 1 := by simp
      rw [e, startF]
      have : ((q ++ [x]) ++ l)[q.length]? = some x := by simp
      rw [this]
      simp [hx]
  | i + 1, h => by
    have hle := runN_le l
    have hil : i < l.length := by omega
    have e : pre.length + (i + 1) = (pre.length + i) + 1 := by omega
    rw [e, startF]
    have hg : (pre ++ l)[pre.length + i]? = some l[i] := by
      rw [List.getElem?_append_right (by omega)]
      simp [hil]
    rw [hg]
    have hk := runN_no l i l[i] (by omega) (List.getElem?_eq_getElem hil)
    simp only [hk, if_false]
    exact startF_in pre l hp i (by omega)
theorem marks_at : ∀ (n : Nat) (pre l : List Row), l.length ≤ n → (pre = [] ∨ (∃ q x, pre = q ++ [x] ∧ x.k = 1) ∨ l = [] ∨ ∃ r q, l = r :: q ∧ r.k = 1) →
    (marksF n l).length = l.length ∧ ∀ i r, l[i]? = some r → (marksF n l)[i]? = some (markAt (pre ++ l) (pre.length + i) r.k)
  | 0, pre, l, h, _ => by
    have : l = [] := List.length_eq_zero_iff.1 (by omega)
    subst this
    exact ⟨rfl, fun i r h => by simp at h⟩
  | n + 1, pre, [], _, _ => ⟨rfl, fun i r h => by simp at h⟩
  | n + 1, pre, x :: l, h, hp => by
    simp only [List.length_cons] at h
    by_cases hx : x.k = 1
    · obtain ⟨h1, h2⟩ := marks_at n (pre ++ [x]) l (by omega) (.inr (.inl ⟨pre, x, rfl, hx⟩))
      rw [marksF, if_pos hx]
      refine ⟨by simp [h1], fun i r hr => ?_⟩
      cases i with
      | zero =>
        simp at hr; subst hr
        simp [markAt, hx]
      | succ i =>
        have := h2 i r (by simpa using hr)
        rw [List.getElem?_cons_succ, this]
        simp only [List.append_assoc, List.singleton_append, List.length_append, List.length_singleton]
        rw [show pre.length + 1 + i = pre.length + (i + 1) by omega]
    · have hp' : pre = [] ∨ ∃ q y, pre = q ++ [y] ∧ y.k = 1 := by
        rcases hp with h | h | h | ⟨r, q, h, hr⟩
        · exact .inl h
        · exact .inr h
        · cases h
        · cases h; exact absurd hr hx
      have hN := runN_le (x :: l)
      have hpos : 0 < runN (x :: l) := by unfold runN; rw [if_neg hx]; omega
      generalize hk : runN (x :: l) = k at hN hpos
      have hs := runN_stop (x :: l)
      rw [hk] at hs
      have hdl : ((x :: l).drop k).length ≤ n := by rw [List.length_drop, List.length_cons]; omega
      obtain ⟨h1, h2⟩ := marks_at n (pre ++ (x :: l).take k) ((x :: l).drop k) hdl (.inr (.inr hs))
      rw [marksF, if_neg hx, hk]
      simp only [List.length_cons] at hN
      refine ⟨by rw [List.length_append, List.length_map, h1, ← List.length_append, List.take_append_drop], fun i r hr => ?_⟩
      by_cases hi : i < k
      · rw [List.getElem?_append_left (by rw [List.length_map, List.length_take, List.length_cons]; omega), List.getElem?_map, List.getElem?_take, if_pos hi, hr]
        have hrk := runN_no (x :: l) i r (by omega) hr
        have hst := startF_in pre (x :: l) hp' i (by omega)
        simp only [Option.map_some, markAt, hrk, if_false, Option.some.injEq, bothF, hst, markR, Bool.and_true]
        simp
      · rw [List.getElem?_append_right (by rw [List.length_map, List.length_take, List.length_cons]; omega), List.length_map, List.length_take, List.length_cons]
        have e : min k (l.length + 1) = k := by omega
        rw [e]
        have := h2 (i - k) r (by rw [List.getElem?_drop, show k + (i - k) = i by omega]; exact hr)
        rw [this]
        congr 1
        rw [List.append_assoc, List.take_append_drop, List.length_append, List.length_take, List.length_cons, e]
        rw [show pre.length + k + (i - k) = pre.length + i by omega]
def partL (kd : Int) : List Row → List UInt8 → List UInt8
  | r :: l, c :: m => (if r.k = 1 ∨ r.k = kd then c :: 32 :: tailF r.t else []) ++ partL kd l m
  | _, _ => []
def anyK (kd : Int) (l : List Row) : Bool := l.any (fun r => r.k == kd)
def partF (kd : Int) (l : List Row) (m : List UInt8) : List UInt8 := if anyK kd l = true then partL kd l m else []
def partD (L : List Row) (kd : Int) (mk : UInt8) : List Row → Nat → List UInt8
  | [], _ => []
  | r :: l, i => (if r.k = 1 then 32 :: 32 :: tailF r.t else if r.k ≠ kd then [] else if bothF L i = true then 33 :: 32 :: tailF r.t else mk :: 32 :: tailF r.t) ++ partD L kd mk l (i + 1)
theorem part_same {L : List Row} {kd : Int} {mk : UInt8} (hk : (kd = 2 ∧ mk = 45) ∨ (kd = 3 ∧ mk = 43)) {m : List UInt8} (hm : ∀ i r, L[i]? = some r → m[i]? = some (markAt L i r.k)) : ∀ (l : List Row) (i : Nat), L.drop i = l → m.length = L.length → partL kd l (m.drop i) = partD L kd mk l i
  | [], i, _, _ => by cases m.drop i <;> rfl
  | r :: l, i, hd, hl => by
    have hi : i < L.length := by
      rcases Nat.lt_or_ge i L.length with h | h
      · exact h
      · rw [List.drop_eq_nil_of_le h] at hd; cases hd
    have h1 : L[i]? = some r := by
      have := List.getElem?_drop (xs := L) (i := i) (j := 0)
      rw [hd] at this; simpa using this.symm
    have h2 : L.drop (i + 1) = l := by
      have := List.drop_drop (l := L) (i := 1) (j := i)
      rw [hd] at this; rw [← this]; rfl
    have h3 := hm i r h1
    have h4 : m.drop i = markAt L i r.k :: m.drop (i + 1) := by
      have hlt := (List.getElem?_eq_some_iff.1 h3).1
      rw [List.drop_eq_getElem_cons hlt]
      rw [List.getElem?_eq_getElem hlt, Option.some.injEq] at h3
      rw [h3]
    rw [h4, partL, partD, part_same hk hm l (i + 1) h2 hl]
    congr 1
    by_cases e1 : r.k = 1
    · simp [e1, markAt]
    · rw [if_neg e1]
      by_cases e2 : r.k = kd
      · rw [if_pos (.inr e2), if_neg (by simpa using e2)]
        unfold markAt markR
        rw [if_neg e1, Bool.and_true]
        split
        · rfl
        · rcases hk with ⟨rfl, rfl⟩ | ⟨rfl, rfl⟩
          · rw [if_pos e2]
          · rw [if_neg (by rw [e2]; decide)]
      · rw [if_neg (by rintro (h | h); exact e1 h; exact e2 h), if_pos e2]
theorem parts_same {L : List Row} {kd : Int} {mk : UInt8} (hk : (kd = 2 ∧ mk = 45) ∨ (kd = 3 ∧ mk = 43)) : partL kd L (marksF L.length L) = partD L kd mk L 0 := by
  obtain ⟨h1, h2⟩ := marks_at L.length [] L (Nat.le_refl _) (.inl rfl)
  have := part_same hk (m := marksF L.length L) (fun i r h => by simpa using h2 i r h) L 0 rfl h1
  simpa using this
end Go.Sv
