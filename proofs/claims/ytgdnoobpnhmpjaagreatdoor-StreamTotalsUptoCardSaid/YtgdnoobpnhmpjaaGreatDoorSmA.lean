/- Sections of a patch, as plain data: their names, what they come to, the other way round. -/
import Derived.Test.YtgdnoobpnhmpjaaGreatDoorSmO
set_option linter.unusedVariables false
set_option linter.unusedSimpArgs false
set_option maxRecDepth 100000
namespace Go.Sv
open Go
structure Sec where
  f : Int
  op : List UInt8
  os : List UInt8
  np : List UInt8
  ns : List UInt8
  ix : List UInt8
  hs : List Hnk
  ed : List UInt8
  ln : Int
abbrev secP (s : Sec) : PV := .agg [.int .i64 s.f, .str s.op, .str s.os, .str s.np, .str s.ns, .str s.ix, .sl (s.hs.map hnkP), .str s.ed, .int .i64 s.ln]
abbrev secsA (l : List Sec) : AV := .pv (.sl (l.map secP))
def devN : List UInt8 := [47, 100, 101, 118, 47, 110, 117, 108, 108]
def isNm (s : List UInt8) : Bool := !(s == []) && !(s == devN)
def nameN (s : Sec) : List UInt8 := if isNm s.np = true then s.np else if isNm s.op = true then s.op else if isNm s.ix = true then s.ix else []
def badS (s : Sec) : Bool := s.f == 4 || nameN s == []
structure Ct where
  nm : List UInt8
  a : Int
  d : Int
abbrev ctP (c : Ct) : PV := .agg [.str c.nm, .int .i64 c.a, .int .i64 c.d]
def oneN (s : Sec) : Except Int Ct := match ofR s.hs with
  | none => .error 100
  | some (a, d) => if a > 2147483647 ∨ d > 2147483647 then .error 2 else .ok ⟨nameN s, a, d⟩
def allN : List Sec → Except Int (List Ct)
  | [] => .ok []
  | s :: r => match oneN s with
    | .error e => .error e
    | .ok c => match allN r with
      | .error e => .error e
      | .ok l => .ok (c :: l)
def cntsN (l : List Sec) : Except Int (List Ct) := if l.any badS = true then .error 1 else allN l
def revF : List Row → List Row → List Row → List Row
  | [], o, f => o ++ f
  | r :: l, o, f => if r.k = 2 then revF l o (f ++ [⟨3, r.t⟩]) else if r.k = 3 then revF l (o ++ [⟨2, r.t⟩]) f else o ++ f ++ r :: revF l [] []
def revH (h : Hnk) : Hnk := ⟨h.b, h.m, h.a, h.n, h.head, revF h.rows [] []⟩
def revS (s : Sec) : Sec := { s with op := s.np, os := s.ns, np := s.op, ns := s.os, hs := s.hs.map revH }
theorem revF_len : ∀ (l o f : List Row), (revF l o f).length = l.length + o.length + f.length
  | [], o, f => by simp [revF]
  | r :: l, o, f => by
    unfold revF
    split
    · rw [revF_len l]; simp; omega
    · split
      · rw [revF_len l]; simp; omega
      · rw [List.length_append, List.length_append, List.length_cons, revF_len l]
        simp; omega
theorem revF_text {B : Nat} : ∀ (l o f : List Row), (∀ x ∈ l, x.t.length ≤ B) → (∀ x ∈ o, x.t.length ≤ B) → (∀ x ∈ f, x.t.length ≤ B) → ∀ x ∈ revF l o f, x.t.length ≤ B
  | [], o, f, _, h2, h3 => by
    intro x hx
    rcases List.mem_append.1 hx with h | h
    · exact h2 x h
    · exact h3 x h
  | r :: l, o, f, h1, h2, h3 => by
    have hr := h1 r (by simp)
    have hl : ∀ x ∈ l, x.t.length ≤ B := fun x hx => h1 x (List.mem_cons_of_mem _ hx)
    unfold revF
    split
    · refine revF_text l o _ hl h2 fun x hx => ?_
      rcases List.mem_append.1 hx with h | h
      · exact h3 x h
      · simp only [List.mem_singleton] at h; subst h; exact hr
    · split
      · refine revF_text l _ f hl (fun x hx => ?_) h3
        rcases List.mem_append.1 hx with h | h
        · exact h2 x h
        · simp only [List.mem_singleton] at h; subst h; exact hr
      · intro x hx
        rcases List.mem_append.1 hx with h | h
        · rcases List.mem_append.1 h with h | h
          · exact h2 x h
          · exact h3 x h
        · rcases List.mem_cons.1 h with rfl | h
          · exact hr
          · exact revF_text l [] [] hl nofun nofun x h
def cntW : Nat → Int → Int
  | 0, a => a
  | n + 1, a => cntW n (IntKind.wrap .i64 (a + 1))
theorem cntW_add (n m : Nat) (a : Int) : cntW (n + m) a = cntW m (cntW n a) := by
  induction n generalizing a with
  | zero => rw [Nat.zero_add]; rfl
  | succ n ih => rw [show n + 1 + m = (n + m) + 1 by omega]; exact ih _
theorem cntF_W (f : Int → Bool) : ∀ (l : List Row) (a : Int), cntF f l a = cntW (l.countP fun r => f r.k) a
  | [], a => rfl
  | r :: l, a => by
    unfold cntF
    rw [List.countP_cons, cntF_W f l]
    split
    · rfl
    · rfl
def sumW (f : Int → Bool) (l : List Hnk) : Nat := (l.map fun h => h.rows.countP fun r => f r.k).sum
theorem sumF_W (f : Int → Bool) : ∀ (l : List Hnk) (a : Int), sumF f l a = cntW (sumW f l) a
  | [], a => rfl
  | h :: l, a => by
    unfold sumF
    rw [sumF_W f l, cntF_W, ← cntW_add]
    rfl
theorem revF_add : ∀ (l o f : List Row), (∀ x ∈ o, x.k = 2) → (∀ x ∈ f, x.k = 3) → (revF l o f).countP (fun r => isAdd r.k) = f.length + l.countP (fun r => isDel r.k) ∧ (revF l o f).countP (fun r => isDel r.k) = o.length + l.countP (fun r => isAdd r.k)
  | [], o, f, h2, h3 => by
    have e1 : o.countP (fun r => isAdd r.k) = 0 := List.countP_eq_zero.2 fun x hx => by rw [h2 x hx]; decide
    have e2 : f.countP (fun r => isAdd r.k) = f.length := List.countP_eq_length.2 fun x hx => by rw [h3 x hx]; decide
    have e3 : o.countP (fun r => isDel r.k) = o.length := List.countP_eq_length.2 fun x hx => by rw [h2 x hx]; decide
    have e4 : f.countP (fun r => isDel r.k) = 0 := List.countP_eq_zero.2 fun x hx => by rw [h3 x hx]; decide
    unfold revF
    rw [List.countP_append, List.countP_append, e1, e2, e3, e4]
    simp
  | r :: l, o, f, h2, h3 => by
    unfold revF
    rw [List.countP_cons, List.countP_cons]
    split
    · rename_i e
      have ⟨g1, g2⟩ := revF_add l o (f ++ [⟨3, r.t⟩]) h2 (fun x hx => by
        rcases List.mem_append.1 hx with h | h
        · exact h3 x h
        · simp only [List.mem_singleton] at h; subst h; rfl)
      rw [g1, g2, e, List.length_append, List.length_singleton]
      rw [if_pos (show isDel 2 = true from rfl), if_neg (show ¬ isAdd 2 = true by decide)]
      omega
    · split
      · rename_i e
        have ⟨g1, g2⟩ := revF_add l (o ++ [⟨2, r.t⟩]) f (fun x hx => by
          rcases List.mem_append.1 hx with h | h
          · exact h2 x h
          · simp only [List.mem_singleton] at h; subst h; rfl) h3
        rw [g1, g2, e, List.length_append, List.length_singleton]
        rw [if_neg (show ¬ isDel 3 = true by decide), if_pos (show isAdd 3 = true from rfl)]
        omega
      · rename_i n2 n3
        have ⟨g1, g2⟩ := revF_add l [] [] nofun nofun
        have a2 : isDel r.k = false := beq_false_of_ne n2
        have a3 : isAdd r.k = false := beq_false_of_ne n3
        have e1 : o.countP (fun r => isAdd r.k) = 0 := List.countP_eq_zero.2 fun x hx => by rw [h2 x hx]; decide
        have e2 : f.countP (fun r => isAdd r.k) = f.length := List.countP_eq_length.2 fun x hx => by rw [h3 x hx]; decide
        have e3 : o.countP (fun r => isDel r.k) = o.length := List.countP_eq_length.2 fun x hx => by rw [h2 x hx]; decide
        have e4 : f.countP (fun r => isDel r.k) = 0 := List.countP_eq_zero.2 fun x hx => by rw [h3 x hx]; decide
        rw [List.countP_append, List.countP_append, List.countP_append, List.countP_append, List.countP_cons, List.countP_cons, e1, e2, e3, e4, g1, g2, a2, a3]
        simp
theorem sumW_rev (l : List Hnk) : sumW isAdd (l.map revH) = sumW isDel l ∧ sumW isDel (l.map revH) = sumW isAdd l := by
  unfold sumW
  rw [List.map_map, List.map_map]
  constructor
  · congr 1
    refine List.map_congr_left fun h _ => ?_
    have := (revF_add h.rows [] [] nofun nofun).1
    simp only [List.length_nil, Nat.zero_add] at this
    exact this
  · congr 1
    refine List.map_congr_left fun h _ => ?_
    have := (revF_add h.rows [] [] nofun nofun).2
    simp only [List.length_nil, Nat.zero_add] at this
    exact this
theorem oneN_rev {s : Sec} {c c' : Ct} (h : oneN s = .ok c) (h' : oneN (revS s) = .ok c') : c'.a = c.d ∧ c'.d = c.a := by
  have key : ∀ {s : Sec} {c : Ct}, oneN s = .ok c → c.a = cntW (sumW isAdd s.hs) 0 ∧ c.d = cntW (sumW isDel s.hs) 0 := by
    intro s c h
    unfold oneN ofR at h
    split at h
    · cases h
    · rename_i a d e
      split at e
      · cases e
        split at h
        · cases h
        · cases h
          exact ⟨sumF_W _ _ _, sumF_W _ _ _⟩
      · cases e
  have ⟨g1, g2⟩ := key h
  have ⟨g3, g4⟩ := key h'
  have ⟨g5, g6⟩ := sumW_rev s.hs
  rw [g1, g2, g3, g4]
  show cntW (sumW isAdd (s.hs.map revH)) 0 = _ ∧ cntW (sumW isDel (s.hs.map revH)) 0 = _
  rw [g5, g6]
  exact ⟨rfl, rfl⟩
theorem allN_len : ∀ (l : List Sec) (cs : List Ct), allN l = .ok cs → cs.length = l.length
  | [], cs, h => by cases h; rfl
  | s :: r, cs, h => by
    unfold allN at h
    split at h
    · cases h
    · split at h
      · cases h
      · rename_i l e
        cases h
        rw [List.length_cons, List.length_cons, allN_len r l e]
theorem allN_rev : ∀ (l : List Sec) (cs ds : List Ct), allN l = .ok cs → allN (l.map revS) = .ok ds → ∀ (i : Nat) c d, cs[i]? = some c → ds[i]? = some d → d.a = c.d ∧ d.d = c.a
  | [], cs, ds, h, _, i, c, d, hc, _ => by cases h; simp at hc
  | s :: r, cs, ds, h, h', i, c, d, hc, hd => by
    rw [List.map_cons] at h'
    unfold allN at h h'
    split at h
    · cases h
    · rename_i c1 e1
      split at h
      · cases h
      · rename_i l1 e2
        cases h
        split at h'
        · cases h'
        · rename_i c2 e3
          split at h'
          · cases h'
          · rename_i l2 e4
            cases h'
            cases i with
            | zero =>
              simp only [List.getElem?_cons_zero, Option.some.injEq] at hc hd
              subst hc; subst hd
              exact oneN_rev e1 e3
            | succ i => exact allN_rev r l1 l2 e2 e4 i c d (by simpa using hc) (by simpa using hd)
end Go.Sv
