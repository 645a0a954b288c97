/-
  What 'FVd' rests on (texts of this seat put together: NJ).
  Conditions: none.
-/
import Derived.Test.YtopmbnnjhoinkaaVV12
import Derived.Test.YtopmbnnjhoinkaaVV15
namespace Go.Proofs.Ytopmbnnjhoinkaa
open Go.RowKit Rg
set_option linter.unusedVariables false
set_option linter.unusedSimpArgs false
set_option maxHeartbeats 1000000
end Go.Proofs.Ytopmbnnjhoinkaa
