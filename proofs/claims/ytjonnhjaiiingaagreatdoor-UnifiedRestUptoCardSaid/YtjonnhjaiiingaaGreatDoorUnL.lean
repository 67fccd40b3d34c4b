/- A unified diff, read: as plain lists. What is printed is read as it was. -/
import Derived.Test.YtjonnhjaiiingaaGreatDoorUnK
set_option linter.unusedVariables false
set_option linter.unusedSimpArgs false
set_option maxRecDepth 100000
namespace Go.Sv
abbrev Ln := List UInt8
def rowOf : Ln → Option Row
  | [] => none
  | c :: t => if c = 32 then some ⟨1, t⟩ else if c = 10 then some ⟨1, [10]⟩ else if c = 45 then some ⟨2, t⟩ else if c = 43 then some ⟨3, t⟩ else none
def bareLast (l : List Row) : List Row := match l.getLast? with
  | none => l
  | some r => l.dropLast ++ [⟨r.k, bareB r.t⟩]
def incO (k n : Int) : Int := if k = 3 then n else n + 1
def incN (k m : Int) : Int := if k = 2 then m else m + 1
def rowsL (N M : Int) : List Ln → Int → Int → Bool → List Row → Option (List Row × List Ln)
  | [], n, m, _, acc => if n = N ∧ m = M then some (acc, []) else none
  | l :: ls, n, m, fr, acc =>
    if l.head? = some 92 then (if fr = true then rowsL N M ls n m false (bareLast acc) else none)
    else if n = N ∧ m = M then some (acc, l :: ls)
    else match rowOf l with
      | none => none
      | some r => if N < incO r.k n ∨ M < incN r.k m then none else rowsL N M ls (incO r.k n) (incN r.k m) true (acc ++ [r])
def ordL (ahead : List Hnk) (h : Hnk) : Bool := match ahead.getLast? with
  | none => true
  | some g => ordB g h
def hunkL (ahead : List Hnk) : List Ln → Option (Hnk × List Ln)
  | [] => none
  | l :: ls => if (firstF (bareB l)).2 = true then match rowsL (firstF (bareB l)).1.n (firstF (bareB l)).1.m ls 0 0 false [] with
      | none => none
      | some (rows, r) => if validF { (firstF (bareB l)).1 with rows := rows } = true then (if ordL ahead { (firstF (bareB l)).1 with rows := rows } = true then some ({ (firstF (bareB l)).1 with rows := rows }, r) else none) else none
    else none
def hunksL : Nat → List Hnk → List Ln → Option (List Hnk × List Ln)
  | 0, _, _ => none
  | _ + 1, acc, [] => some (acc, [])
  | f + 1, acc, l :: ls => if Lib.hasPrefix l [64, 64, 32, 45] = true then match hunkL acc (l :: ls) with
      | none => none
      | some (h, r) => hunksL f (acc ++ [h]) r
    else some (acc, l :: ls)
def nameF (mark l : Ln) : Option (Ln × Ln) := if Lib.hasPrefix l mark = true then match unqF ((bareB l).drop mark.length) with
    | none => none
    | some (p, []) => some (p, [])
    | some (p, c :: r) => if c = 9 then some (p, r) else none
  else none
structure Pars where
  a : Ln × Ln
  b : Ln × Ln
  l : List Hnk
  r : List Ln
def readL : List Ln → Option Pars
  | l1 :: l2 :: ls => match nameF [45, 45, 45, 32] l1, nameF [43, 43, 43, 32] l2 with
    | some a, some b => match hunksL (ls.length + 1) [] ls with
      | some (h :: hs, r) => some ⟨a, b, h :: hs, r⟩
      | _ => none
    | _, _ => none
  | _ => none
def wholeF (s : Ln) : Ln := if s ≠ [] ∧ wholeB s = false then s ++ [10] else s
def sizeF (s : Ln) (r : List Ln) : Nat := (wholeF s).length - r.flatten.length
def parseF (s : Ln) : Option (Pars × Ln) := if 4194304 < s.length then none else match readL (splitF (wholeF s)) with
  | none => none
  | some x => some (x, s.drop (min (sizeF s x.r) s.length))
def wl (l : Ln) : Prop := lineB l = true ∧ wholeB l = true
def no92 (X : List Ln) : Prop := ∀ x ∈ X.head?, x.head? ≠ some 92
end Go.Sv
