/-
  What 'FVd' rests on (texts of this seat put together: NT).
  Conditions: none.
-/
import Derived.Test.YtopmbnnjhoinkaaVV21
namespace Go.Proofs.Ytopmbnnjhoinkaa
open Go.RowKit Rg
set_option linter.unusedVariables false
set_option linter.unusedSimpArgs false
set_option maxHeartbeats 1000000
def goodRp (ts : List RepT) (i : Nat) : Prop := ∃ h : i < ts.length, okRep ts[i] = true ∧ ts[i].1 = (i : Int)
def okReps (ts : List RepT) : Prop := ∀ i, i < ts.length → goodRp ts i
instance (ts : List RepT) (i : Nat) : Decidable (goodRp ts i) := by unfold goodRp; infer_instance
instance (ts : List RepT) : Decidable (okReps ts) := by unfold okReps; infer_instance
end Go.Proofs.Ytopmbnnjhoinkaa
