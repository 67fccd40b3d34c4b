/- A patch's lines with their counts put right: headers and rows, on both sides. -/
import Derived.Test.YtgdnoobpnhmpjaaGreatDoorSmG
import Derived.Test.YtgdnoobpnhmpjaaGreatDoorSvT
import Derived.KernelRfl
import Derived.Test.YtgdnoobpnhmpjaaGreatDoorSvC
import Derived.Lib.Strings
set_option linter.unusedVariables false
set_option linter.unusedSimpArgs false
set_option maxRecDepth 100000
namespace Go.Sv
abbrev Ln := List UInt8
open Go Go.RowKit Go.Proofs
end Go.Sv
