/-
  What 'FVd' rests on (texts of this seat put together: NSg).
  Conditions: none.
-/
import Derived.Test.YtopmbnnjhoinkaaVV23
namespace Go.Proofs.Ytopmbnnjhoinkaa
open Go.RowKit Rg Go.Maps
set_option linter.unusedVariables false
set_option linter.unusedSimpArgs false
set_option maxHeartbeats 1000000
end Go.Proofs.Ytopmbnnjhoinkaa
