/- Names in quotes, read: as plain lists; what is quoted is read as it was. -/
import Derived.Test.YtjonnhjaiiingaaGreatDoorUnI
set_option linter.unusedVariables false
set_option linter.unusedSimpArgs false
set_option maxRecDepth 100000
namespace Go.Sv
def meantT (k : Nat) : Option Nat := match k with
  | 97 => some 7 | 98 => some 8 | 116 => some 9 | 110 => some 10 | 118 => some 11 | 102 => some 12 | 114 => some 13 | 34 => some 34 | 92 => some 92 | _ => none
def octV (a b c : Nat) : Option Nat := if 48 ≤ a ∧ a ≤ 51 ∧ 48 ≤ b ∧ b ≤ 55 ∧ 48 ≤ c ∧ c ≤ 55 then some ((a - 48) * 64 + (b - 48) * 8 + (c - 48)) else none
def octF : List UInt8 → Option Nat
  | a :: b :: c :: _ => octV a.toNat b.toNat c.toNat
  | _ => none
def uqL : Nat → List UInt8 → List UInt8 → Option (List UInt8 × List UInt8)
  | 0, _, _ => none
  | _ + 1, [], _ => none
  | n + 1, c :: r, acc =>
    if c = 34 then some (acc, r) else if c = 10 then none else if c ≠ 92 then uqL n r (acc ++ [c]) else
    match r with
    | [] => none
    | d :: r1 => match meantT d.toNat with
      | some m => uqL n r1 (acc ++ [UInt8.ofNat m])
      | none => match octF (d :: r1) with
        | some v => uqL n ((d :: r1).drop 3) (acc ++ [UInt8.ofNat v])
        | none => none
def nameEnd : List UInt8 → Nat
  | [] => 0
  | c :: r => if c = 9 ∨ c = 10 then 0 else nameEnd r + 1
def unqF (s : List UInt8) : Option (List UInt8 × List UInt8) := match s with
  | 34 :: r => uqL (r.length + 1) r []
  | s => some (s.take (nameEnd s), s.drop (nameEnd s))
theorem nameEnd_le : ∀ s : List UInt8, nameEnd s ≤ s.length
  | [] => Nat.le_refl _
  | c :: r => by
    have := nameEnd_le r
    unfold nameEnd
    split
    · omega
    · simp only [List.length_cons]; omega
theorem nameEnd_any : ∀ s : List UInt8, (if Lib.indexAny s [9, 10] < 0 then (s.length : Int) else Lib.indexAny s [9, 10]) = (nameEnd s : Int)
  | [] => rfl
  | c :: r => by
    have ih := nameEnd_any r
    have hge := Lib.indexAny_ge [9, 10] r
    rw [Lib.indexAny, nameEnd]
    have hc : ([9, 10] : List UInt8).contains c = true ↔ c = 9 ∨ c = 10 := by simp
    by_cases h : c = 9 ∨ c = 10
    · rw [if_pos (hc.2 h), if_pos h]; rfl
    · rw [if_neg (fun e => h (hc.1 e)), if_neg h]
      by_cases hm : Lib.indexAny r [9, 10] = -1
      · rw [hm] at ih ⊢
        simp only [beq_self_eq_true, if_true, List.length_cons] at ih ⊢
        rw [if_pos (by omega)] at ih
        rw [if_pos (by omega)]
        omega
      · have hb : (Lib.indexAny r [9, 10] == -1) = false := beq_false_of_ne hm
        rw [hb]
        simp only [Bool.false_eq_true, if_false]
        rw [if_neg (by omega)] at ih
        rw [if_neg (by omega)]
        omega
end Go.Sv
