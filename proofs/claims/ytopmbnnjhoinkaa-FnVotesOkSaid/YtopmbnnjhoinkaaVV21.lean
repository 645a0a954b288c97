/-
  What 'FVd' rests on (texts of this seat put together: NS).
  Conditions: none.
-/
import Derived.Test.YtopmbnnjhoinkaaVV20
namespace Go.Proofs.Ytopmbnnjhoinkaa
open Go.RowKit Rg
set_option linter.unusedVariables false
set_option linter.unusedSimpArgs false
set_option maxHeartbeats 1000000
end Go.Proofs.Ytopmbnnjhoinkaa
