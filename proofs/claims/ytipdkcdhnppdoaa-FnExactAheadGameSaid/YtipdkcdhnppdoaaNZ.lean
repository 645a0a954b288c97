/-
  What every row's closed facts say of the program alone, each checked once.
  Conditions: none.
-/
import Derived.Test.YtipdkcdhnppdoaaHZi
namespace Go.Proofs.Ytipdkcdhnppdoaa.Shut
open Go.RowKit
theorem and_intro {a b : Bool} (h : a = true) (g : b = true) : (a && b) = true := by rw [h, g]; rfl
theorem laidOut : laidOutB Try.prog = true := by kernel_rfl
theorem rowed : mapsRowed Try.prog = true := by kernel_rfl
theorem heard : Try.prog.stopsHeard = true := by kernel_rfl
theorem enter : Try.prog.mayEnter = true := by kernel_rfl
theorem lifts : Try.prog.liftsFinal = Rows.fnExactGameFoldRow.lifted := by kernel_rfl
theorem keys : Try.prog.plainKeys = Rows.fnExactGameFoldRow.plainKeys := by kernel_rfl
theorem stops : (Try.prog.stops == []) = true := by kernel_rfl
theorem knobs : (Try.prog.stopKnobs == []) = true := by kernel_rfl
theorem make : (Try.prog.make == some Rows.fnExactGameFoldRow.make) = true := by kernel_rfl
end Go.Proofs.Ytipdkcdhnppdoaa.Shut
