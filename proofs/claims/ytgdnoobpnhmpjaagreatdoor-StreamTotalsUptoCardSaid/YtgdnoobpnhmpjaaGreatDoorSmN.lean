/- Numbers at a text's beginning, on both sides; a hunk's first line. -/
import Derived.Test.YtgdnoobpnhmpjaaGreatDoorSmL
import Derived.Test.YtgdnoobpnhmpjaaGreatDoorSmI
import Derived.Test.YtgdnoobpnhmpjaaGreatDoorSmV
import Derived.Test.YtgdnoobpnhmpjaaGreatDoorSh2
import Derived.Test.YtgdnoobpnhmpjaaGreatDoorSvE
import Derived.Lib.IndexBytes
set_option linter.unusedVariables false
set_option linter.unusedSimpArgs false
set_option maxRecDepth 100000
namespace Go.Sv
open Go Go.RowKit Go.Proofs
def isDig (c : UInt8) : Bool := decide (48 ≤ c.toNat) && decide (c.toNat ≤ 57)
abbrev rest (s : Ln) : Ln := s.dropWhile isDig
end Go.Sv
