/-
  What 'FVd' rests on (texts of this seat put together: NI).
  Conditions: none.
-/
import Derived.Test.YtopmbnnjhoinkaaVV14
namespace Go.Proofs.Ytopmbnnjhoinkaa
open Go.RowKit Rg
set_option linter.unusedVariables false
set_option linter.unusedSimpArgs false
set_option maxHeartbeats 1000000
section
variable {w : World} {b k : Nat} {v0 v1 v2 v3 v4 v5 v6 v7 v8 v9 v10 : Value}
end
end Go.Proofs.Ytopmbnnjhoinkaa
