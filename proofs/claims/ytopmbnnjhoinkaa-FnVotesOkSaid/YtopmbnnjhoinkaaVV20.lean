/-
  What 'FVd' rests on (texts of this seat put together: NR).
  Conditions: none.
-/
import Derived.Test.YtopmbnnjhoinkaaVV19
namespace Go.Proofs.Ytopmbnnjhoinkaa
open Go.RowKit Rg
set_option linter.unusedVariables false
set_option linter.unusedSimpArgs false
set_option maxHeartbeats 1000000
def alike2 (c d : ClaimT) : Bool := (c.2.1 == d.2.1) && (c.1 == d.1)
def goodT (ts : List ClaimT) (i : Nat) : Prop := ∃ h : i < ts.length, okCl ts[i] = true ∧ ∀ (j : Nat) (hj : j < i), alike2 ts[j] ts[i] = false
def okTook (ts : List ClaimT) : Prop := ∀ i, i < ts.length → goodT ts i
instance (ts : List ClaimT) (i : Nat) : Decidable (goodT ts i) := by unfold goodT; infer_instance
instance (ts : List ClaimT) : Decidable (okTook ts) := by unfold okTook; infer_instance
def okH (m : MsgT) : Bool := okMsg m && inB m.1 3 5
def okRep (t : RepT) : Bool := decide (okTook t.2.2.2.2.1) && (t.2.2.2.2.2.1.all okH && (inB t.1 0 3 && (inB t.2.1 0 6 && (inB t.2.2.2.1 1 6 && (decide (okCls t.2.2.2.2.2.2) && (decide (t.2.2.2.2.1.length ≤ 40) && decide (t.2.2.2.2.2.1.length ≤ 120)))))))
end Go.Proofs.Ytopmbnnjhoinkaa
