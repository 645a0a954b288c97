/-
  Package laws' functions on claims, votes, letters: sizes, comparisons of what reads alike. (Printed by gen_nm.py.)
  Conditions: none.
-/
import Derived.Test.YtkmoefgnejhpoaaNQ
import Derived.Test.YtkmoefgnejhpoaaND
namespace Go.Proofs.Ytkmoefgnejhpoaa
open Go.RowKit Rg
set_option linter.unusedVariables false
set_option linter.unusedSimpArgs false

end Go.Proofs.Ytkmoefgnejhpoaa
