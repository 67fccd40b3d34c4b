/- Numbers, ranges, a hunk's first line, read: as plain lists; what is printed is read as it was. -/
import Derived.Test.YtjonnhjaiiingaaGreatDoorUnJ
import Derived.Test.YtjonnhjaiiingaaGreatDoorUnE
set_option linter.unusedVariables false
set_option linter.unusedSimpArgs false
set_option maxRecDepth 100000
namespace Go.Sv
def capI (x : Int) : Int := if 2147483648 < x then 2147483648 else x
def numL : List UInt8 → Int → Int × List UInt8
  | [], n => (n, [])
  | c :: r, n => if 48 ≤ c.toNat ∧ c.toNat ≤ 57 then numL r (capI (n * 10 + ((c.toNat : Int) - 48))) else (n, c :: r)
def numF (s : List UInt8) : Int × List UInt8 × Bool := ((numL s 0).1, (numL s 0).2, decide ((numL s 0).2.length < s.length) && decide ((numL s 0).1 ≤ 2147483647))
def rangF (s : List UInt8) : Int × Int × List UInt8 × Bool :=
  if (numF s).2.2 = true ∧ Lib.hasPrefix (numF s).2.1 [44] = true then ((numF s).1, (numF ((numF s).2.1.drop 1)).1, (numF ((numF s).2.1.drop 1)).2.1, (numF ((numF s).2.1.drop 1)).2.2)
  else ((numF s).1, 1, (numF s).2.1, (numF s).2.2)
def cutF (s p : List UInt8) : List UInt8 × Bool := if Lib.hasPrefix s p = true then (s.drop p.length, true) else (s, false)
def zeroH : Hnk := ⟨0, 0, 0, 0, [], []⟩
def fst4 (h : Hnk) (s : List UInt8) (ok : Bool) : Hnk × Bool :=
  if ok = false then (h, false) else if s ≠ [] ∧ s.head? ≠ some 32 then (h, false) else ({ h with head := Lib.trimPrefix s [32] }, true)
def fst3 (h : Hnk) (s : List UInt8) (ok : Bool) : Hnk × Bool := if ok = true then fst4 h (cutF s [32, 64, 64]).1 (cutF s [32, 64, 64]).2 else fst4 h s ok
def fst2 (h : Hnk) (s : List UInt8) (ok : Bool) : Hnk × Bool := if ok = true then fst3 { h with b := (rangF s).1, m := (rangF s).2.1 } (rangF s).2.2.1 (rangF s).2.2.2 else fst3 h s ok
def fst1 (h : Hnk) (s : List UInt8) (ok : Bool) : Hnk × Bool := if ok = true then fst2 h (cutF s [32, 43]).1 (cutF s [32, 43]).2 else fst2 h s ok
def firstF (s : List UInt8) : Hnk × Bool := if (cutF s [64, 64, 32, 45]).2 = true then fst1 { zeroH with a := (rangF (cutF s [64, 64, 32, 45]).1).1, n := (rangF (cutF s [64, 64, 32, 45]).1).2.1 } (rangF (cutF s [64, 64, 32, 45]).1).2.2.1 (rangF (cutF s [64, 64, 32, 45]).1).2.2.2 else fst1 zeroH (cutF s [64, 64, 32, 45]).1 (cutF s [64, 64, 32, 45]).2
end Go.Sv
