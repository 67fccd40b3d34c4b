/- Package unified, printing: a hunk's text, a file's text: what the program and the document's answer answer. -/
import Derived.Test.YtjonnhjaiiingaaGreatDoorUnD
import Derived.Test.YtjonnhjaiiingaaGreatDoorHl
set_option linter.unusedVariables false
set_option linter.unusedSimpArgs false
set_option maxRecDepth 100000
namespace Go.Sv
section
open Go Go.RowKit
def inOrd : List Hnk → Bool
  | g :: h :: r => ordB g h && inOrd (h :: r)
  | _ => true
end
end Go.Sv
