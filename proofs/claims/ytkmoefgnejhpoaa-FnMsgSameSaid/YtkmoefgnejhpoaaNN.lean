/-
  Package laws' deep copies of claims, votes, letters. (Printed by gen_nn.py.)
  Conditions: none.
-/
import Derived.Test.YtkmoefgnejhpoaaNM
import Derived.Test.YtkmoefgnejhpoaaNI
namespace Go.Proofs.Ytkmoefgnejhpoaa
open Go.RowKit Rg
set_option linter.unusedVariables false
set_option linter.unusedSimpArgs false

theorem keepf {w w' : World} (hb : Below w.heap.size w w') {b j : Nat} (hl : b < w.heap.size) (h : w.frozen? ⟨b, j, none⟩ = false) : w'.frozen? ⟨b, j, none⟩ = false := by
  have := hb.block b hl
  simp only [World.frozen?, this] at h ⊢
  exact h

theorem infoClaim : (Try.prog.info? 40).map (fun i => (i.zero, i.size, i.bytes)) = some (some (.agg #[.int .i64 0, .int .i64 0, .int .i64 0, .int .i64 0, .int .i64 0, .int .i64 0, .int .i64 0]), 7, 56) := by kernel_rfl
theorem infoVote : (Try.prog.info? 45).map (fun i => (i.zero, i.size, i.bytes)) = some (some (.agg #[.int .i64 0, .slice none 0 0]), 2, 32) := by kernel_rfl
end Go.Proofs.Ytkmoefgnejhpoaa
