/-
  Package laws' deep copies of claims, votes, letters. (Printed by gen_nn.py.)
  Conditions: none.
-/
import Derived.Test.YtocifmnkohgfjaaDoorNM
import Derived.Test.YtocifmnkohgfjaaDoorNI
namespace Go.Proofs.YtocifmnkohgfjaaDoor
open Go.RowKit Rg
set_option linter.unusedVariables false
set_option linter.unusedSimpArgs false

theorem keepf {w w' : World} (hb : Below w.heap.size w w') {b j : Nat} (hl : b < w.heap.size) (h : w.frozen? ⟨b, j, none⟩ = false) : w'.frozen? ⟨b, j, none⟩ = false := by
  have := hb.block b hl
  simp only [World.frozen?, this] at h ⊢
  exact h

set_option maxRecDepth 100000 in
set_option maxHeartbeats 4000000 in
theorem toClaim_c (t : ClaimT)  (lo hi : Nat) (w : World)  (hhi : hi ≤ w.heap.size)  :
    Calls Tryd.prog 33 #[.agg #[.int .i64 t.1, .int .i64 t.2.1, .int .i64 t.2.2.1, .int .i64 t.2.2.2.1, .int .i64 t.2.2.2.2.1, .int .i64 t.2.2.2.2.2.1, .int .i64 t.2.2.2.2.2.2]] w fun e w' => e = .returned (.agg #[.int .i64 t.1, .int .i64 t.2.1, .int .i64 t.2.2.1, .int .i64 t.2.2.2.1, .int .i64 t.2.2.2.2.1, .int .i64 t.2.2.2.2.2.1, .int .i64 t.2.2.2.2.2.2]) ∧ Below w.heap.size w w' := by
  have hB : Below w.heap.size w (((w.alloc (.cells #[.int .i64 t.1, .int .i64 t.2.1, .int .i64 t.2.2.1, .int .i64 t.2.2.2.1, .int .i64 t.2.2.2.2.1, .int .i64 t.2.2.2.2.2.1, .int .i64 t.2.2.2.2.2.2] 66)).alloc (.cells #[.int .i64 0, .int .i64 0, .int .i64 0, .int .i64 0, .int .i64 0, .int .i64 0, .int .i64 0] 63)).alloc (.cells #[.int .i64 t.1, .int .i64 t.2.1, .int .i64 0, .int .i64 0, .int .i64 0, .int .i64 0, .int .i64 0] 63)) := ((Below.refl _ _).alloc (Nat.le_refl _) _ |>.alloc (by simp) _).alloc (by simp; omega) _
  obtain ⟨t1, t2, t3, t4⟩ := heap3 w (.cells #[.int .i64 t.1, .int .i64 t.2.1, .int .i64 t.2.2.1, .int .i64 t.2.2.2.1, .int .i64 t.2.2.2.2.1, .int .i64 t.2.2.2.2.2.1, .int .i64 t.2.2.2.2.2.2] 66) (.cells #[.int .i64 0, .int .i64 0, .int .i64 0, .int .i64 0, .int .i64 0, .int .i64 0, .int .i64 0] 63) (.cells #[.int .i64 t.1, .int .i64 t.2.1, .int .i64 0, .int .i64 0, .int .i64 0, .int .i64 0, .int .i64 0] 63)
  have x2 : (((w.alloc (.cells #[.int .i64 t.1, .int .i64 t.2.1, .int .i64 t.2.2.1, .int .i64 t.2.2.2.1, .int .i64 t.2.2.2.2.1, .int .i64 t.2.2.2.2.2.1, .int .i64 t.2.2.2.2.2.2] 66)).alloc (.cells #[.int .i64 0, .int .i64 0, .int .i64 0, .int .i64 0, .int .i64 0, .int .i64 0, .int .i64 0] 63)).alloc (.cells #[.int .i64 t.1, .int .i64 t.2.1, .int .i64 0, .int .i64 0, .int .i64 0, .int .i64 0, .int .i64 0] 63)).cell? ⟨w.heap.size, 2, none⟩ = some (.int .i64 t.2.2.1) := by simp only [World.cell?, t1]; rfl
  have x3 : (((w.alloc (.cells #[.int .i64 t.1, .int .i64 t.2.1, .int .i64 t.2.2.1, .int .i64 t.2.2.2.1, .int .i64 t.2.2.2.2.1, .int .i64 t.2.2.2.2.2.1, .int .i64 t.2.2.2.2.2.2] 66)).alloc (.cells #[.int .i64 0, .int .i64 0, .int .i64 0, .int .i64 0, .int .i64 0, .int .i64 0, .int .i64 0] 63)).alloc (.cells #[.int .i64 t.1, .int .i64 t.2.1, .int .i64 0, .int .i64 0, .int .i64 0, .int .i64 0, .int .i64 0] 63)).cell? ⟨w.heap.size, 3, none⟩ = some (.int .i64 t.2.2.2.1) := by simp only [World.cell?, t1]; rfl
  have x4 : (((w.alloc (.cells #[.int .i64 t.1, .int .i64 t.2.1, .int .i64 t.2.2.1, .int .i64 t.2.2.2.1, .int .i64 t.2.2.2.2.1, .int .i64 t.2.2.2.2.2.1, .int .i64 t.2.2.2.2.2.2] 66)).alloc (.cells #[.int .i64 0, .int .i64 0, .int .i64 0, .int .i64 0, .int .i64 0, .int .i64 0, .int .i64 0] 63)).alloc (.cells #[.int .i64 t.1, .int .i64 t.2.1, .int .i64 0, .int .i64 0, .int .i64 0, .int .i64 0, .int .i64 0] 63)).cell? ⟨w.heap.size, 4, none⟩ = some (.int .i64 t.2.2.2.2.1) := by simp only [World.cell?, t1]; rfl
  have x5 : (((w.alloc (.cells #[.int .i64 t.1, .int .i64 t.2.1, .int .i64 t.2.2.1, .int .i64 t.2.2.2.1, .int .i64 t.2.2.2.2.1, .int .i64 t.2.2.2.2.2.1, .int .i64 t.2.2.2.2.2.2] 66)).alloc (.cells #[.int .i64 0, .int .i64 0, .int .i64 0, .int .i64 0, .int .i64 0, .int .i64 0, .int .i64 0] 63)).alloc (.cells #[.int .i64 t.1, .int .i64 t.2.1, .int .i64 0, .int .i64 0, .int .i64 0, .int .i64 0, .int .i64 0] 63)).cell? ⟨w.heap.size, 5, none⟩ = some (.int .i64 t.2.2.2.2.2.1) := by simp only [World.cell?, t1]; rfl
  have x6 : (((w.alloc (.cells #[.int .i64 t.1, .int .i64 t.2.1, .int .i64 t.2.2.1, .int .i64 t.2.2.2.1, .int .i64 t.2.2.2.2.1, .int .i64 t.2.2.2.2.2.1, .int .i64 t.2.2.2.2.2.2] 66)).alloc (.cells #[.int .i64 0, .int .i64 0, .int .i64 0, .int .i64 0, .int .i64 0, .int .i64 0, .int .i64 0] 63)).alloc (.cells #[.int .i64 t.1, .int .i64 t.2.1, .int .i64 0, .int .i64 0, .int .i64 0, .int .i64 0, .int .i64 0] 63)).cell? ⟨w.heap.size, 6, none⟩ = some (.int .i64 t.2.2.2.2.2.2) := by simp only [World.cell?, t1]; rfl
  have z0 : (((w.alloc (.cells #[.int .i64 t.1, .int .i64 t.2.1, .int .i64 t.2.2.1, .int .i64 t.2.2.2.1, .int .i64 t.2.2.2.2.1, .int .i64 t.2.2.2.2.2.1, .int .i64 t.2.2.2.2.2.2] 66)).alloc (.cells #[.int .i64 0, .int .i64 0, .int .i64 0, .int .i64 0, .int .i64 0, .int .i64 0, .int .i64 0] 63)).alloc (.cells #[.int .i64 t.1, .int .i64 t.2.1, .int .i64 0, .int .i64 0, .int .i64 0, .int .i64 0, .int .i64 0] 63)).cell? ⟨w.heap.size + 1, 0, none⟩ = some (.int .i64 0) := by simp only [World.cell?, t2]; rfl
  have z1 : (((w.alloc (.cells #[.int .i64 t.1, .int .i64 t.2.1, .int .i64 t.2.2.1, .int .i64 t.2.2.2.1, .int .i64 t.2.2.2.2.1, .int .i64 t.2.2.2.2.2.1, .int .i64 t.2.2.2.2.2.2] 66)).alloc (.cells #[.int .i64 0, .int .i64 0, .int .i64 0, .int .i64 0, .int .i64 0, .int .i64 0, .int .i64 0] 63)).alloc (.cells #[.int .i64 t.1, .int .i64 t.2.1, .int .i64 0, .int .i64 0, .int .i64 0, .int .i64 0, .int .i64 0] 63)).cell? ⟨w.heap.size + 1, 1, none⟩ = some (.int .i64 0) := by simp only [World.cell?, t2]; rfl
  have z2 : (((w.alloc (.cells #[.int .i64 t.1, .int .i64 t.2.1, .int .i64 t.2.2.1, .int .i64 t.2.2.2.1, .int .i64 t.2.2.2.2.1, .int .i64 t.2.2.2.2.2.1, .int .i64 t.2.2.2.2.2.2] 66)).alloc (.cells #[.int .i64 0, .int .i64 0, .int .i64 0, .int .i64 0, .int .i64 0, .int .i64 0, .int .i64 0] 63)).alloc (.cells #[.int .i64 t.1, .int .i64 t.2.1, .int .i64 0, .int .i64 0, .int .i64 0, .int .i64 0, .int .i64 0] 63)).cell? ⟨w.heap.size + 1, 2, none⟩ = some (.int .i64 0) := by simp only [World.cell?, t2]; rfl
  have z3 : (((w.alloc (.cells #[.int .i64 t.1, .int .i64 t.2.1, .int .i64 t.2.2.1, .int .i64 t.2.2.2.1, .int .i64 t.2.2.2.2.1, .int .i64 t.2.2.2.2.2.1, .int .i64 t.2.2.2.2.2.2] 66)).alloc (.cells #[.int .i64 0, .int .i64 0, .int .i64 0, .int .i64 0, .int .i64 0, .int .i64 0, .int .i64 0] 63)).alloc (.cells #[.int .i64 t.1, .int .i64 t.2.1, .int .i64 0, .int .i64 0, .int .i64 0, .int .i64 0, .int .i64 0] 63)).cell? ⟨w.heap.size + 1, 3, none⟩ = some (.int .i64 0) := by simp only [World.cell?, t2]; rfl
  have z4 : (((w.alloc (.cells #[.int .i64 t.1, .int .i64 t.2.1, .int .i64 t.2.2.1, .int .i64 t.2.2.2.1, .int .i64 t.2.2.2.2.1, .int .i64 t.2.2.2.2.2.1, .int .i64 t.2.2.2.2.2.2] 66)).alloc (.cells #[.int .i64 0, .int .i64 0, .int .i64 0, .int .i64 0, .int .i64 0, .int .i64 0, .int .i64 0] 63)).alloc (.cells #[.int .i64 t.1, .int .i64 t.2.1, .int .i64 0, .int .i64 0, .int .i64 0, .int .i64 0, .int .i64 0] 63)).cell? ⟨w.heap.size + 1, 4, none⟩ = some (.int .i64 0) := by simp only [World.cell?, t2]; rfl
  have z5 : (((w.alloc (.cells #[.int .i64 t.1, .int .i64 t.2.1, .int .i64 t.2.2.1, .int .i64 t.2.2.2.1, .int .i64 t.2.2.2.2.1, .int .i64 t.2.2.2.2.2.1, .int .i64 t.2.2.2.2.2.2] 66)).alloc (.cells #[.int .i64 0, .int .i64 0, .int .i64 0, .int .i64 0, .int .i64 0, .int .i64 0, .int .i64 0] 63)).alloc (.cells #[.int .i64 t.1, .int .i64 t.2.1, .int .i64 0, .int .i64 0, .int .i64 0, .int .i64 0, .int .i64 0] 63)).cell? ⟨w.heap.size + 1, 5, none⟩ = some (.int .i64 0) := by simp only [World.cell?, t2]; rfl
  have z6 : (((w.alloc (.cells #[.int .i64 t.1, .int .i64 t.2.1, .int .i64 t.2.2.1, .int .i64 t.2.2.2.1, .int .i64 t.2.2.2.2.1, .int .i64 t.2.2.2.2.2.1, .int .i64 t.2.2.2.2.2.2] 66)).alloc (.cells #[.int .i64 0, .int .i64 0, .int .i64 0, .int .i64 0, .int .i64 0, .int .i64 0, .int .i64 0] 63)).alloc (.cells #[.int .i64 t.1, .int .i64 t.2.1, .int .i64 0, .int .i64 0, .int .i64 0, .int .i64 0, .int .i64 0] 63)).cell? ⟨w.heap.size + 1, 6, none⟩ = some (.int .i64 0) := by simp only [World.cell?, t2]; rfl
  have zf0 : (((w.alloc (.cells #[.int .i64 t.1, .int .i64 t.2.1, .int .i64 t.2.2.1, .int .i64 t.2.2.2.1, .int .i64 t.2.2.2.2.1, .int .i64 t.2.2.2.2.2.1, .int .i64 t.2.2.2.2.2.2] 66)).alloc (.cells #[.int .i64 0, .int .i64 0, .int .i64 0, .int .i64 0, .int .i64 0, .int .i64 0, .int .i64 0] 63)).alloc (.cells #[.int .i64 t.1, .int .i64 t.2.1, .int .i64 0, .int .i64 0, .int .i64 0, .int .i64 0, .int .i64 0] 63)).frozen? ⟨w.heap.size + 1, 0, none⟩ = false := by simp only [World.frozen?, t2]; simp
  have zf1 : (((w.alloc (.cells #[.int .i64 t.1, .int .i64 t.2.1, .int .i64 t.2.2.1, .int .i64 t.2.2.2.1, .int .i64 t.2.2.2.2.1, .int .i64 t.2.2.2.2.2.1, .int .i64 t.2.2.2.2.2.2] 66)).alloc (.cells #[.int .i64 0, .int .i64 0, .int .i64 0, .int .i64 0, .int .i64 0, .int .i64 0, .int .i64 0] 63)).alloc (.cells #[.int .i64 t.1, .int .i64 t.2.1, .int .i64 0, .int .i64 0, .int .i64 0, .int .i64 0, .int .i64 0] 63)).frozen? ⟨w.heap.size + 1, 1, none⟩ = false := by simp only [World.frozen?, t2]; simp
  have zf2 : (((w.alloc (.cells #[.int .i64 t.1, .int .i64 t.2.1, .int .i64 t.2.2.1, .int .i64 t.2.2.2.1, .int .i64 t.2.2.2.2.1, .int .i64 t.2.2.2.2.2.1, .int .i64 t.2.2.2.2.2.2] 66)).alloc (.cells #[.int .i64 0, .int .i64 0, .int .i64 0, .int .i64 0, .int .i64 0, .int .i64 0, .int .i64 0] 63)).alloc (.cells #[.int .i64 t.1, .int .i64 t.2.1, .int .i64 0, .int .i64 0, .int .i64 0, .int .i64 0, .int .i64 0] 63)).frozen? ⟨w.heap.size + 1, 2, none⟩ = false := by simp only [World.frozen?, t2]; simp
  have zf3 : (((w.alloc (.cells #[.int .i64 t.1, .int .i64 t.2.1, .int .i64 t.2.2.1, .int .i64 t.2.2.2.1, .int .i64 t.2.2.2.2.1, .int .i64 t.2.2.2.2.2.1, .int .i64 t.2.2.2.2.2.2] 66)).alloc (.cells #[.int .i64 0, .int .i64 0, .int .i64 0, .int .i64 0, .int .i64 0, .int .i64 0, .int .i64 0] 63)).alloc (.cells #[.int .i64 t.1, .int .i64 t.2.1, .int .i64 0, .int .i64 0, .int .i64 0, .int .i64 0, .int .i64 0] 63)).frozen? ⟨w.heap.size + 1, 3, none⟩ = false := by simp only [World.frozen?, t2]; simp
  have zf4 : (((w.alloc (.cells #[.int .i64 t.1, .int .i64 t.2.1, .int .i64 t.2.2.1, .int .i64 t.2.2.2.1, .int .i64 t.2.2.2.2.1, .int .i64 t.2.2.2.2.2.1, .int .i64 t.2.2.2.2.2.2] 66)).alloc (.cells #[.int .i64 0, .int .i64 0, .int .i64 0, .int .i64 0, .int .i64 0, .int .i64 0, .int .i64 0] 63)).alloc (.cells #[.int .i64 t.1, .int .i64 t.2.1, .int .i64 0, .int .i64 0, .int .i64 0, .int .i64 0, .int .i64 0] 63)).frozen? ⟨w.heap.size + 1, 4, none⟩ = false := by simp only [World.frozen?, t2]; simp
  have zf5 : (((w.alloc (.cells #[.int .i64 t.1, .int .i64 t.2.1, .int .i64 t.2.2.1, .int .i64 t.2.2.2.1, .int .i64 t.2.2.2.2.1, .int .i64 t.2.2.2.2.2.1, .int .i64 t.2.2.2.2.2.2] 66)).alloc (.cells #[.int .i64 0, .int .i64 0, .int .i64 0, .int .i64 0, .int .i64 0, .int .i64 0, .int .i64 0] 63)).alloc (.cells #[.int .i64 t.1, .int .i64 t.2.1, .int .i64 0, .int .i64 0, .int .i64 0, .int .i64 0, .int .i64 0] 63)).frozen? ⟨w.heap.size + 1, 5, none⟩ = false := by simp only [World.frozen?, t2]; simp
  have zf6 : (((w.alloc (.cells #[.int .i64 t.1, .int .i64 t.2.1, .int .i64 t.2.2.1, .int .i64 t.2.2.2.1, .int .i64 t.2.2.2.2.1, .int .i64 t.2.2.2.2.2.1, .int .i64 t.2.2.2.2.2.2] 66)).alloc (.cells #[.int .i64 0, .int .i64 0, .int .i64 0, .int .i64 0, .int .i64 0, .int .i64 0, .int .i64 0] 63)).alloc (.cells #[.int .i64 t.1, .int .i64 t.2.1, .int .i64 0, .int .i64 0, .int .i64 0, .int .i64 0, .int .i64 0] 63)).frozen? ⟨w.heap.size + 1, 6, none⟩ = false := by simp only [World.frozen?, t2]; simp
  have y0 : (((w.alloc (.cells #[.int .i64 t.1, .int .i64 t.2.1, .int .i64 t.2.2.1, .int .i64 t.2.2.2.1, .int .i64 t.2.2.2.2.1, .int .i64 t.2.2.2.2.2.1, .int .i64 t.2.2.2.2.2.2] 66)).alloc (.cells #[.int .i64 0, .int .i64 0, .int .i64 0, .int .i64 0, .int .i64 0, .int .i64 0, .int .i64 0] 63)).alloc (.cells #[.int .i64 t.1, .int .i64 t.2.1, .int .i64 0, .int .i64 0, .int .i64 0, .int .i64 0, .int .i64 0] 63)).cell? ⟨w.heap.size + 1 + 1, 0, none⟩ = some (.int .i64 t.1) := by simp only [World.cell?, t3]; rfl
  have y1 : (((w.alloc (.cells #[.int .i64 t.1, .int .i64 t.2.1, .int .i64 t.2.2.1, .int .i64 t.2.2.2.1, .int .i64 t.2.2.2.2.1, .int .i64 t.2.2.2.2.2.1, .int .i64 t.2.2.2.2.2.2] 66)).alloc (.cells #[.int .i64 0, .int .i64 0, .int .i64 0, .int .i64 0, .int .i64 0, .int .i64 0, .int .i64 0] 63)).alloc (.cells #[.int .i64 t.1, .int .i64 t.2.1, .int .i64 0, .int .i64 0, .int .i64 0, .int .i64 0, .int .i64 0] 63)).cell? ⟨w.heap.size + 1 + 1, 1, none⟩ = some (.int .i64 t.2.1) := by simp only [World.cell?, t3]; rfl
  have y2 : (((w.alloc (.cells #[.int .i64 t.1, .int .i64 t.2.1, .int .i64 t.2.2.1, .int .i64 t.2.2.2.1, .int .i64 t.2.2.2.2.1, .int .i64 t.2.2.2.2.2.1, .int .i64 t.2.2.2.2.2.2] 66)).alloc (.cells #[.int .i64 0, .int .i64 0, .int .i64 0, .int .i64 0, .int .i64 0, .int .i64 0, .int .i64 0] 63)).alloc (.cells #[.int .i64 t.1, .int .i64 t.2.1, .int .i64 0, .int .i64 0, .int .i64 0, .int .i64 0, .int .i64 0] 63)).cell? ⟨w.heap.size + 1 + 1, 2, none⟩ = some (.int .i64 0) := by simp only [World.cell?, t3]; rfl
  have y3 : (((w.alloc (.cells #[.int .i64 t.1, .int .i64 t.2.1, .int .i64 t.2.2.1, .int .i64 t.2.2.2.1, .int .i64 t.2.2.2.2.1, .int .i64 t.2.2.2.2.2.1, .int .i64 t.2.2.2.2.2.2] 66)).alloc (.cells #[.int .i64 0, .int .i64 0, .int .i64 0, .int .i64 0, .int .i64 0, .int .i64 0, .int .i64 0] 63)).alloc (.cells #[.int .i64 t.1, .int .i64 t.2.1, .int .i64 0, .int .i64 0, .int .i64 0, .int .i64 0, .int .i64 0] 63)).cell? ⟨w.heap.size + 1 + 1, 3, none⟩ = some (.int .i64 0) := by simp only [World.cell?, t3]; rfl
  have y4 : (((w.alloc (.cells #[.int .i64 t.1, .int .i64 t.2.1, .int .i64 t.2.2.1, .int .i64 t.2.2.2.1, .int .i64 t.2.2.2.2.1, .int .i64 t.2.2.2.2.2.1, .int .i64 t.2.2.2.2.2.2] 66)).alloc (.cells #[.int .i64 0, .int .i64 0, .int .i64 0, .int .i64 0, .int .i64 0, .int .i64 0, .int .i64 0] 63)).alloc (.cells #[.int .i64 t.1, .int .i64 t.2.1, .int .i64 0, .int .i64 0, .int .i64 0, .int .i64 0, .int .i64 0] 63)).cell? ⟨w.heap.size + 1 + 1, 4, none⟩ = some (.int .i64 0) := by simp only [World.cell?, t3]; rfl
  have y5 : (((w.alloc (.cells #[.int .i64 t.1, .int .i64 t.2.1, .int .i64 t.2.2.1, .int .i64 t.2.2.2.1, .int .i64 t.2.2.2.2.1, .int .i64 t.2.2.2.2.2.1, .int .i64 t.2.2.2.2.2.2] 66)).alloc (.cells #[.int .i64 0, .int .i64 0, .int .i64 0, .int .i64 0, .int .i64 0, .int .i64 0, .int .i64 0] 63)).alloc (.cells #[.int .i64 t.1, .int .i64 t.2.1, .int .i64 0, .int .i64 0, .int .i64 0, .int .i64 0, .int .i64 0] 63)).cell? ⟨w.heap.size + 1 + 1, 5, none⟩ = some (.int .i64 0) := by simp only [World.cell?, t3]; rfl
  have y6 : (((w.alloc (.cells #[.int .i64 t.1, .int .i64 t.2.1, .int .i64 t.2.2.1, .int .i64 t.2.2.2.1, .int .i64 t.2.2.2.2.1, .int .i64 t.2.2.2.2.2.1, .int .i64 t.2.2.2.2.2.2] 66)).alloc (.cells #[.int .i64 0, .int .i64 0, .int .i64 0, .int .i64 0, .int .i64 0, .int .i64 0, .int .i64 0] 63)).alloc (.cells #[.int .i64 t.1, .int .i64 t.2.1, .int .i64 0, .int .i64 0, .int .i64 0, .int .i64 0, .int .i64 0] 63)).cell? ⟨w.heap.size + 1 + 1, 6, none⟩ = some (.int .i64 0) := by simp only [World.cell?, t3]; rfl
  have yf0 : (((w.alloc (.cells #[.int .i64 t.1, .int .i64 t.2.1, .int .i64 t.2.2.1, .int .i64 t.2.2.2.1, .int .i64 t.2.2.2.2.1, .int .i64 t.2.2.2.2.2.1, .int .i64 t.2.2.2.2.2.2] 66)).alloc (.cells #[.int .i64 0, .int .i64 0, .int .i64 0, .int .i64 0, .int .i64 0, .int .i64 0, .int .i64 0] 63)).alloc (.cells #[.int .i64 t.1, .int .i64 t.2.1, .int .i64 0, .int .i64 0, .int .i64 0, .int .i64 0, .int .i64 0] 63)).frozen? ⟨w.heap.size + 1 + 1, 0, none⟩ = false := by simp only [World.frozen?, t3]; simp
  have yf1 : (((w.alloc (.cells #[.int .i64 t.1, .int .i64 t.2.1, .int .i64 t.2.2.1, .int .i64 t.2.2.2.1, .int .i64 t.2.2.2.2.1, .int .i64 t.2.2.2.2.2.1, .int .i64 t.2.2.2.2.2.2] 66)).alloc (.cells #[.int .i64 0, .int .i64 0, .int .i64 0, .int .i64 0, .int .i64 0, .int .i64 0, .int .i64 0] 63)).alloc (.cells #[.int .i64 t.1, .int .i64 t.2.1, .int .i64 0, .int .i64 0, .int .i64 0, .int .i64 0, .int .i64 0] 63)).frozen? ⟨w.heap.size + 1 + 1, 1, none⟩ = false := by simp only [World.frozen?, t3]; simp
  have yf2 : (((w.alloc (.cells #[.int .i64 t.1, .int .i64 t.2.1, .int .i64 t.2.2.1, .int .i64 t.2.2.2.1, .int .i64 t.2.2.2.2.1, .int .i64 t.2.2.2.2.2.1, .int .i64 t.2.2.2.2.2.2] 66)).alloc (.cells #[.int .i64 0, .int .i64 0, .int .i64 0, .int .i64 0, .int .i64 0, .int .i64 0, .int .i64 0] 63)).alloc (.cells #[.int .i64 t.1, .int .i64 t.2.1, .int .i64 0, .int .i64 0, .int .i64 0, .int .i64 0, .int .i64 0] 63)).frozen? ⟨w.heap.size + 1 + 1, 2, none⟩ = false := by simp only [World.frozen?, t3]; simp
  have yf3 : (((w.alloc (.cells #[.int .i64 t.1, .int .i64 t.2.1, .int .i64 t.2.2.1, .int .i64 t.2.2.2.1, .int .i64 t.2.2.2.2.1, .int .i64 t.2.2.2.2.2.1, .int .i64 t.2.2.2.2.2.2] 66)).alloc (.cells #[.int .i64 0, .int .i64 0, .int .i64 0, .int .i64 0, .int .i64 0, .int .i64 0, .int .i64 0] 63)).alloc (.cells #[.int .i64 t.1, .int .i64 t.2.1, .int .i64 0, .int .i64 0, .int .i64 0, .int .i64 0, .int .i64 0] 63)).frozen? ⟨w.heap.size + 1 + 1, 3, none⟩ = false := by simp only [World.frozen?, t3]; simp
  have yf4 : (((w.alloc (.cells #[.int .i64 t.1, .int .i64 t.2.1, .int .i64 t.2.2.1, .int .i64 t.2.2.2.1, .int .i64 t.2.2.2.2.1, .int .i64 t.2.2.2.2.2.1, .int .i64 t.2.2.2.2.2.2] 66)).alloc (.cells #[.int .i64 0, .int .i64 0, .int .i64 0, .int .i64 0, .int .i64 0, .int .i64 0, .int .i64 0] 63)).alloc (.cells #[.int .i64 t.1, .int .i64 t.2.1, .int .i64 0, .int .i64 0, .int .i64 0, .int .i64 0, .int .i64 0] 63)).frozen? ⟨w.heap.size + 1 + 1, 4, none⟩ = false := by simp only [World.frozen?, t3]; simp
  have yf5 : (((w.alloc (.cells #[.int .i64 t.1, .int .i64 t.2.1, .int .i64 t.2.2.1, .int .i64 t.2.2.2.1, .int .i64 t.2.2.2.2.1, .int .i64 t.2.2.2.2.2.1, .int .i64 t.2.2.2.2.2.2] 66)).alloc (.cells #[.int .i64 0, .int .i64 0, .int .i64 0, .int .i64 0, .int .i64 0, .int .i64 0, .int .i64 0] 63)).alloc (.cells #[.int .i64 t.1, .int .i64 t.2.1, .int .i64 0, .int .i64 0, .int .i64 0, .int .i64 0, .int .i64 0] 63)).frozen? ⟨w.heap.size + 1 + 1, 5, none⟩ = false := by simp only [World.frozen?, t3]; simp
  have yf6 : (((w.alloc (.cells #[.int .i64 t.1, .int .i64 t.2.1, .int .i64 t.2.2.1, .int .i64 t.2.2.2.1, .int .i64 t.2.2.2.2.1, .int .i64 t.2.2.2.2.2.1, .int .i64 t.2.2.2.2.2.2] 66)).alloc (.cells #[.int .i64 0, .int .i64 0, .int .i64 0, .int .i64 0, .int .i64 0, .int .i64 0, .int .i64 0] 63)).alloc (.cells #[.int .i64 t.1, .int .i64 t.2.1, .int .i64 0, .int .i64 0, .int .i64 0, .int .i64 0, .int .i64 0] 63)).frozen? ⟨w.heap.size + 1 + 1, 6, none⟩ = false := by simp only [World.frozen?, t3]; simp
  have hl : w.heap.size + 1 + 1 < (((w.alloc (.cells #[.int .i64 t.1, .int .i64 t.2.1, .int .i64 t.2.2.1, .int .i64 t.2.2.2.1, .int .i64 t.2.2.2.2.1, .int .i64 t.2.2.2.2.2.1, .int .i64 t.2.2.2.2.2.2] 66)).alloc (.cells #[.int .i64 0, .int .i64 0, .int .i64 0, .int .i64 0, .int .i64 0, .int .i64 0, .int .i64 0] 63)).alloc (.cells #[.int .i64 t.1, .int .i64 t.2.1, .int .i64 0, .int .i64 0, .int .i64 0, .int .i64 0, .int .i64 0] 63)).heap.size := by rw [t4]; omega
  clear t1 t2 t3 t4
  go_enter Tryd.func33, Tryd.ntmps33
  go_wp2_with fail
  generalize (((w.alloc (.cells #[.int .i64 t.1, .int .i64 t.2.1, .int .i64 t.2.2.1, .int .i64 t.2.2.2.1, .int .i64 t.2.2.2.2.1, .int .i64 t.2.2.2.2.2.1, .int .i64 t.2.2.2.2.2.2] 66)).alloc (.cells #[.int .i64 0, .int .i64 0, .int .i64 0, .int .i64 0, .int .i64 0, .int .i64 0, .int .i64 0] 63)).alloc (.cells #[.int .i64 t.1, .int .i64 t.2.1, .int .i64 0, .int .i64 0, .int .i64 0, .int .i64 0, .int .i64 0] 63)) = v0 at *
  refine (toReq_c t.2.2 v0).mono ?_
  rintro e u0 ⟨rfl, hb0⟩
  have hB := hB.trans (hb0.mono hB.size)
  have hzhb0 := hb0.size
  have z0 := keepc hb0 z0
  have zf0 := keepf hb0 (by omega) zf0
  have z1 := keepc hb0 z1
  have zf1 := keepf hb0 (by omega) zf1
  have z2 := keepc hb0 z2
  have zf2 := keepf hb0 (by omega) zf2
  have z3 := keepc hb0 z3
  have zf3 := keepf hb0 (by omega) zf3
  have z4 := keepc hb0 z4
  have zf4 := keepf hb0 (by omega) zf4
  have z5 := keepc hb0 z5
  have zf5 := keepf hb0 (by omega) zf5
  have z6 := keepc hb0 z6
  have zf6 := keepf hb0 (by omega) zf6
  have y0 := keepc hb0 y0
  have yf0 := keepf hb0 (by omega) yf0
  have y1 := keepc hb0 y1
  have yf1 := keepf hb0 (by omega) yf1
  have y2 := keepc hb0 y2
  have yf2 := keepf hb0 (by omega) yf2
  have y3 := keepc hb0 y3
  have yf3 := keepf hb0 (by omega) yf3
  have y4 := keepc hb0 y4
  have yf4 := keepf hb0 (by omega) yf4
  have y5 := keepc hb0 y5
  have yf5 := keepf hb0 (by omega) yf5
  have y6 := keepc hb0 y6
  have yf6 := keepf hb0 (by omega) yf6
  have hl := Nat.lt_of_lt_of_le hl hb0.size
  go_wp2
  refine bodyPost_ret (v := .agg #[.int .i64 t.1, .int .i64 t.2.1, .int .i64 t.2.2.1, .int .i64 t.2.2.2.1, .int .i64 t.2.2.2.2.1, .int .i64 t.2.2.2.2.2.1, .int .i64 t.2.2.2.2.2.2]) (by simp [results, Tryd.results33, go_sem, y0, y1, y2, y3, y4, y5, y6, z0, z1, z2, z3, z4, z5, z6]) rfl ⟨rfl, ?_⟩
  repeat (first | (with_reducible exact hB) | (with_reducible refine Below.drew ?_) | ((with_reducible refine Below.setCell ?_ ?_ _); rotate_left; (focus (first | (simp; done) | (simp; omega)))))

theorem infoClaim : (Tryd.prog.info? 63).map (fun i => (i.zero, i.size, i.bytes)) = some (some (.agg #[.int .i64 0, .int .i64 0, .int .i64 0, .int .i64 0, .int .i64 0, .int .i64 0, .int .i64 0]), 7, 56) := by kernel_rfl
theorem toClaimS_c {A : Option Addr} {n c lo hi : Nat} {ts : List ClaimT} {w : World} (hs : RdN 7 clR w lo hi A n c ts) (hb : ts.length ≤ 1048576) (hhi : hi ≤ w.heap.size) :
    Calls Tryd.prog 14 #[.slice A n c] w fun e w' => ∃ (A' : Option Addr) (n' c' : Nat), e = .returned (.slice A' n' c') ∧ OwnC w' w.heap.size w'.heap.size A' n' c' ts ∧ Below w.heap.size w w' := by
  have hn' := hide hs.len
  have hbn : n ≤ 1048576 := by rw [hs.len]; exact hb
  have hmk := fun W => run_make_n (P := Tryd.prog) 31 63 (info_parts infoClaim).choose _ Tryd.underlying31 (info_parts infoClaim).choose_spec.1 (info_parts infoClaim).choose_spec.2.1 .i64 .i64 n (by rw [(info_parts infoClaim).choose_spec.2.2.2]; omega) (by omega) W
  rw [(info_parts infoClaim).choose_spec.2.2.1] at hmk
  have hown : Own encClaim 7 tC (w.alloc (.cells (madeCells (Value.agg #[.int .i64 0, .int .i64 0, .int .i64 0, .int .i64 0, .int .i64 0, .int .i64 0, .int .i64 0]).cells (n * 7)) 63)) w.heap.size (.slice (some ⟨w.heap.size, 0, none⟩) n n) (List.replicate n (0, 0, 0, 0, 0, 0, 0)) :=
    own_made encClaim_len (by omega) _ w _ n (0, 0, 0, 0, 0, 0, 0) (Value.agg #[.int .i64 0, .int .i64 0, .int .i64 0, .int .i64 0, .int .i64 0, .int .i64 0, .int .i64 0]) rfl (Nat.le_refl _) (by unfold maxLen; omega)
  have hbel : Below w.heap.size w (w.alloc (.cells (madeCells (Value.agg #[.int .i64 0, .int .i64 0, .int .i64 0, .int .i64 0, .int .i64 0, .int .i64 0, .int .i64 0]).cells (n * 7)) 63)) := (Below.refl _ _).alloc (Nat.le_refl _) _
  go_enter Tryd.func14, Tryd.ntmps14
  go_wp2
  go_loopw [4] (fun i wr => ∃ k : Nat, k ≤ n ∧ i = .int .i64 k ∧ Own encClaim 7 tC wr w.heap.size (.slice (some ⟨w.heap.size, 0, none⟩) n n) (ts.take k ++ List.replicate (n - k) (0, 0, 0, 0, 0, 0, 0)) ∧ Below w.heap.size w wr) (fun i _ => n - (intOf i).toNat)
  case atStart => exact ⟨0, Nat.zero_le _, rfl, by rw [List.take_zero, List.nil_append, Nat.sub_zero]; exact hown, hbel⟩
  case round =>
    obtain ⟨k, hk, rfl, ho, hbr⟩ := hrel
    by_cases hlt : k < n
    · have hlx : k < ts.length := by have := hn'.out; omega
      obtain ⟨b, off, rfl, hlo, hbh⟩ := hs.addr hlx
      obtain ⟨a0, a1, a2, a3, a4, a5, a6⟩ := (hs.below (flat_kept _) hbr hhi).claim hlx
      go_wp2_with (go_at_call 33; refine (toClaim_c ts[k] 0 0 _ (Nat.zero_le _)).mono ?_; rintro e w1 ⟨rfl, hb1⟩; have ho1 := ho.below hb1 (Nat.le_refl _); obtain ⟨p0, q0⟩ := ho1.cellAt0 encClaim_len hlt (by omega); have f0 := ho1.frozen (k * 7); obtain ⟨p1, q1⟩ := ho1.cellAt encClaim_len hlt 1 (by omega); have f1 := ho1.frozen (k * 7 + 1); obtain ⟨p2, q2⟩ := ho1.cellAt encClaim_len hlt 2 (by omega); have f2 := ho1.frozen (k * 7 + 2); obtain ⟨p3, q3⟩ := ho1.cellAt encClaim_len hlt 3 (by omega); have f3 := ho1.frozen (k * 7 + 3); obtain ⟨p4, q4⟩ := ho1.cellAt encClaim_len hlt 4 (by omega); have f4 := ho1.frozen (k * 7 + 4); obtain ⟨p5, q5⟩ := ho1.cellAt encClaim_len hlt 5 (by omega); have f5 := ho1.frozen (k * 7 + 5); obtain ⟨p6, q6⟩ := ho1.cellAt encClaim_len hlt 6 (by omega); have f6 := ho1.frozen (k * 7 + 6))
      go_roundw
      case rel =>
        refine ⟨k + 1, by omega, by go_num, ?_, ?_⟩
        · have := ho1.put_ encClaim_len hlt ts[k]
          rw [take_set_replicate ts _ k n hn'.out hlt] at this
          exact this
        · exact (((((((hbr.trans (hb1.mono hbr.size)).setCell (by simp) _).setCell (by simp) _).setCell (by simp) _).setCell (by simp) _).setCell (by simp) _).setCell (by simp) _).setCell (by simp) _
      case measure => simp [intOf]; omega
    · obtain rfl : k = n := by omega
      go_wp2
      go_ret
      rw [Nat.sub_self, List.replicate_zero, List.append_nil, List.take_of_length_le (by rw [hn'.out]; omega)] at ho
      exact ⟨_, _, _, rfl, ho.ownB, hbr⟩

set_option maxRecDepth 100000 in
set_option maxHeartbeats 4000000 in
theorem toVote_c (t : VoteT) (A : Option Addr) (n c : Nat) (lo hi : Nat) (w : World) (h0 : RdN 7 clR w lo hi A n c t.2) (hhi : hi ≤ w.heap.size) (hz0 : t.2.length ≤ 1048576) :
    Calls Tryd.prog 34 #[.agg #[.int .i64 t.1, .slice A n c]] w fun e w' => ∃ (Ar : Option Addr) (nr cr : Nat), e = .returned (.agg #[.int .i64 t.1, .slice Ar nr cr]) ∧ voteF w' w.heap.size w'.heap.size [.int .i64 t.1, .slice Ar nr cr] t ∧ Below w.heap.size w w' := by
  have hB : Below w.heap.size w (((w.alloc (.cells #[.int .i64 t.1, .slice A n c] 55)).alloc (.cells #[.int .i64 0, .slice none 0 0] 49)).alloc (.cells #[.int .i64 t.1, .slice none 0 0] 49)) := ((Below.refl _ _).alloc (Nat.le_refl _) _ |>.alloc (by simp) _).alloc (by simp; omega) _
  obtain ⟨t1, t2, t3, t4⟩ := heap3 w (.cells #[.int .i64 t.1, .slice A n c] 55) (.cells #[.int .i64 0, .slice none 0 0] 49) (.cells #[.int .i64 t.1, .slice none 0 0] 49)
  have x1 : (((w.alloc (.cells #[.int .i64 t.1, .slice A n c] 55)).alloc (.cells #[.int .i64 0, .slice none 0 0] 49)).alloc (.cells #[.int .i64 t.1, .slice none 0 0] 49)).cell? ⟨w.heap.size, 1, none⟩ = some (.slice A n c) := by simp only [World.cell?, t1]; rfl
  have z0 : (((w.alloc (.cells #[.int .i64 t.1, .slice A n c] 55)).alloc (.cells #[.int .i64 0, .slice none 0 0] 49)).alloc (.cells #[.int .i64 t.1, .slice none 0 0] 49)).cell? ⟨w.heap.size + 1, 0, none⟩ = some (.int .i64 0) := by simp only [World.cell?, t2]; rfl
  have z1 : (((w.alloc (.cells #[.int .i64 t.1, .slice A n c] 55)).alloc (.cells #[.int .i64 0, .slice none 0 0] 49)).alloc (.cells #[.int .i64 t.1, .slice none 0 0] 49)).cell? ⟨w.heap.size + 1, 1, none⟩ = some (.slice none 0 0) := by simp only [World.cell?, t2]; rfl
  have zf0 : (((w.alloc (.cells #[.int .i64 t.1, .slice A n c] 55)).alloc (.cells #[.int .i64 0, .slice none 0 0] 49)).alloc (.cells #[.int .i64 t.1, .slice none 0 0] 49)).frozen? ⟨w.heap.size + 1, 0, none⟩ = false := by simp only [World.frozen?, t2]; simp
  have zf1 : (((w.alloc (.cells #[.int .i64 t.1, .slice A n c] 55)).alloc (.cells #[.int .i64 0, .slice none 0 0] 49)).alloc (.cells #[.int .i64 t.1, .slice none 0 0] 49)).frozen? ⟨w.heap.size + 1, 1, none⟩ = false := by simp only [World.frozen?, t2]; simp
  have y0 : (((w.alloc (.cells #[.int .i64 t.1, .slice A n c] 55)).alloc (.cells #[.int .i64 0, .slice none 0 0] 49)).alloc (.cells #[.int .i64 t.1, .slice none 0 0] 49)).cell? ⟨w.heap.size + 1 + 1, 0, none⟩ = some (.int .i64 t.1) := by simp only [World.cell?, t3]; rfl
  have y1 : (((w.alloc (.cells #[.int .i64 t.1, .slice A n c] 55)).alloc (.cells #[.int .i64 0, .slice none 0 0] 49)).alloc (.cells #[.int .i64 t.1, .slice none 0 0] 49)).cell? ⟨w.heap.size + 1 + 1, 1, none⟩ = some (.slice none 0 0) := by simp only [World.cell?, t3]; rfl
  have yf0 : (((w.alloc (.cells #[.int .i64 t.1, .slice A n c] 55)).alloc (.cells #[.int .i64 0, .slice none 0 0] 49)).alloc (.cells #[.int .i64 t.1, .slice none 0 0] 49)).frozen? ⟨w.heap.size + 1 + 1, 0, none⟩ = false := by simp only [World.frozen?, t3]; simp
  have yf1 : (((w.alloc (.cells #[.int .i64 t.1, .slice A n c] 55)).alloc (.cells #[.int .i64 0, .slice none 0 0] 49)).alloc (.cells #[.int .i64 t.1, .slice none 0 0] 49)).frozen? ⟨w.heap.size + 1 + 1, 1, none⟩ = false := by simp only [World.frozen?, t3]; simp
  have hl : w.heap.size + 1 + 1 < (((w.alloc (.cells #[.int .i64 t.1, .slice A n c] 55)).alloc (.cells #[.int .i64 0, .slice none 0 0] 49)).alloc (.cells #[.int .i64 t.1, .slice none 0 0] 49)).heap.size := by rw [t4]; omega
  clear t1 t2 t3 t4
  have k0 := hide (fun W (h : Below w.heap.size w W) => toClaimS_c (h0.below (flat_kept _) h hhi) hz0 (Nat.le_trans hhi h.size))
  go_enter Tryd.func34, Tryd.ntmps34
  go_wp2_with fail
  generalize (((w.alloc (.cells #[.int .i64 t.1, .slice A n c] 55)).alloc (.cells #[.int .i64 0, .slice none 0 0] 49)).alloc (.cells #[.int .i64 t.1, .slice none 0 0] 49)) = v0 at *
  refine (k0.out _ hB).mono ?_
  rintro e u0 ⟨Ar, nr, cr, rfl, g0, hb0⟩
  have hB := hB.trans (hb0.mono hB.size)
  have hzhb0 := hb0.size
  have z0 := keepc hb0 z0
  have zf0 := keepf hb0 (by omega) zf0
  have z1 := keepc hb0 z1
  have zf1 := keepf hb0 (by omega) zf1
  have y0 := keepc hb0 y0
  have yf0 := keepf hb0 (by omega) yf0
  have y1 := keepc hb0 y1
  have yf1 := keepf hb0 (by omega) yf1
  have hl := Nat.lt_of_lt_of_le hl hb0.size
  go_wp2
  refine bodyPost_ret (v := .agg #[.int .i64 t.1, .slice Ar nr cr]) (by simp [results, Tryd.results34, go_sem, y0, y1, z0, z1]) rfl ⟨Ar, nr, cr, rfl, ?_, ?_⟩
  rotate_left
  · repeat (first | (with_reducible exact hB) | (with_reducible refine Below.drew ?_) | ((with_reducible refine Below.setCell ?_ ?_ _); rotate_left; (focus (first | (simp; done) | (simp; omega)))))
  · generalize hwf : (World.setCell _ _ _) = wf
    have hA : Above (w.heap.size + 1 + 1 + 1) u0 wf := by
      rw [← hwf]
      repeat (first | (with_reducible exact Above.refl _ _) | (with_reducible refine Above.drew ?_) | ((with_reducible refine Above.setCell ?_ ?_ _); rotate_left; (focus (first | (simp; done) | (simp; omega)))))
    have hws : wf.heap.size = u0.heap.size := by rw [← hwf]; simp
    clear hwf
    have g0 := g0.above hA (by omega)
    exact ⟨_, _, _, rfl, g0.mono (by omega) (by omega)⟩

theorem infoVote : (Tryd.prog.info? 49).map (fun i => (i.zero, i.size, i.bytes)) = some (some (.agg #[.int .i64 0, .slice none 0 0]), 2, 32) := by kernel_rfl
set_option maxHeartbeats 1000000 in
theorem toVoteS_c {A : Option Addr} {n c lo hi : Nat} {ts : List VoteT} {w : World} (hs : RdN 2 voteR w lo hi A n c ts) (hb : szVotes ts ≤ 1048576) (hhi : hi ≤ w.heap.size) :
    Calls Tryd.prog 15 #[.slice A n c] w fun e w' => ∃ (A' : Option Addr) (n' c' : Nat), e = .returned (.slice A' n' c') ∧ FrV w' w.heap.size w'.heap.size A' n' c' ts ∧ Below w.heap.size w w' := by
  have hn' := hide hs.len
  have hbs := hide hb
  have hbn : n ≤ 1048576 := by rw [hs.len]; have h1 := hb; unfold szVotes at h1; omega
  have hmk := fun W => run_make_n (P := Tryd.prog) 32 49 (info_parts infoVote).choose _ Tryd.underlying32 (info_parts infoVote).choose_spec.1 (info_parts infoVote).choose_spec.2.1 .i64 .i64 n (by rw [(info_parts infoVote).choose_spec.2.2.2]; omega) (by omega) W
  rw [(info_parts infoVote).choose_spec.2.2.1] at hmk
  obtain ⟨zx, hzx⟩ : ∃ zx : Cs 2, zx.val = [.int .i64 0, .slice none 0 0] := ⟨⟨[.int .i64 0, .slice none 0 0], rfl, by intro u hu; simp at hu; (first | (rcases hu with rfl | rfl | rfl | rfl | rfl | rfl | rfl | rfl | rfl | rfl | rfl <;> rfl) | (rcases hu with rfl | rfl | rfl | rfl | rfl | rfl | rfl <;> rfl) | (rcases hu with rfl | rfl | rfl | rfl <;> rfl) | (rcases hu with rfl | rfl | rfl <;> rfl) | (rcases hu with rfl | rfl <;> rfl))⟩, rfl⟩
  have hown : Own Cs.val 2 tV (w.alloc (.cells (madeCells (Value.agg #[.int .i64 0, .slice none 0 0]).cells (n * 2)) 49)) w.heap.size (.slice (some ⟨w.heap.size, 0, none⟩) n n) (List.replicate n zx) :=
    own_madeC (by omega) _ w _ n zx (Value.agg #[.int .i64 0, .slice none 0 0]) hzx.symm (Nat.le_refl _) (by unfold maxLen; omega)
  have hbel : Below w.heap.size w (w.alloc (.cells (madeCells (Value.agg #[.int .i64 0, .slice none 0 0]).cells (n * 2)) 49)) := (Below.refl _ _).alloc (Nat.le_refl _) _
  have hw1 : w.heap.size + 1 = (w.alloc (.cells (madeCells (Value.agg #[.int .i64 0, .slice none 0 0]).cells (n * 2)) 49)).heap.size := by simp
  go_enter Tryd.func15, Tryd.ntmps15
  go_wp2
  go_loopw [4] (fun i wr => ∃ (k : Nat) (ls : List (Cs 2)), k ≤ n ∧ i = .int .i64 k ∧ Hid (ls.length = k) ∧ Own Cs.val 2 tV wr w.heap.size (.slice (some ⟨w.heap.size, 0, none⟩) n n) (ls ++ List.replicate (n - k) zx) ∧ FL voteF wr (w.heap.size + 1) wr.heap.size ls (ts.take k) ∧ Below w.heap.size w wr) (fun i _ => n - (intOf i).toNat)
  case atStart => exact ⟨0, [], Nat.zero_le _, rfl, rfl, by rw [List.nil_append, Nat.sub_zero]; exact hown, by rw [List.take_zero]; exact Nat.le_of_eq hw1, hbel⟩
  case round =>
    obtain ⟨k, ls, hk, rfl, hls, ho, hfl, hbr⟩ := hrel
    have hzr := hbr.size
    by_cases hlt : k < n
    · have hlx : k < ts.length := by have := hn'.out; omega
      obtain ⟨b, off, rfl, hlo, hbh⟩ := hs.addr hlx
      obtain ⟨A1, n1, c1, a0, a1, r0⟩ := (hs.below vote_kept hbr hhi).vote hlx
      have hzk : Hid (szVote ts[k] ≤ 1048576) := hide (by have h1 := sum_at szVote ts k hlx; have h2 := hbs.out; unfold szVotes at h2; omega)
      have hgl := (ho.addrAt hlt)
      have hgs : w.heap.size < wr.heap.size := by obtain ⟨g, hg, _, h3⟩ := hgl; injection hg with hg; injection hg with hg; omega
      clear hgl
      go_wp2_with fail
      refine (toVote_c ts[k] A1 n1 c1 lo hi wr r0 (by omega) (by have := hzk.out; unfold szVote at this; omega)).mono ?_
      rintro e w1 ⟨Ar, nr, cr, rfl, hF, hb1⟩
      have hz1 := hb1.size
      have ho1 := ho.below hb1 (Nat.le_refl _)
      obtain ⟨p0, q0⟩ := ho1.cellAt0 Cs.len hlt (by omega)
      have f0 := ho1.frozen (k * 2)
      obtain ⟨p1, q1⟩ := ho1.cellAt Cs.len hlt 1 (by omega)
      have f1 := ho1.frozen (k * 2 + 1)
      obtain ⟨x1, hx1⟩ : ∃ x1 : Cs 2, x1.val = [.int .i64 ts[k].1, .slice Ar nr cr] := ⟨⟨[.int .i64 ts[k].1, .slice Ar nr cr], rfl, by intro u hu; simp at hu; (first | (rcases hu with rfl | rfl | rfl | rfl | rfl | rfl | rfl | rfl | rfl | rfl | rfl <;> rfl) | (rcases hu with rfl | rfl | rfl | rfl | rfl | rfl | rfl <;> rfl) | (rcases hu with rfl | rfl | rfl | rfl <;> rfl) | (rcases hu with rfl | rfl | rfl <;> rfl) | (rcases hu with rfl | rfl <;> rfl))⟩, rfl⟩
      have hput := ho1.put_ Cs.len hlt x1
      rw [set_at_len ls zx x1 k n hls.out hlt, hx1] at hput
      have hfl1 := (hfl.keep voteF_kept (fun b _ hb => hb1.block b hb)).snoc (c := x1) (t := ts[k]) voteF_kept hz1 (by rw [hx1]; exact hF)
      rw [← List.take_succ_eq_append_getElem hlx] at hfl1
      have hBz := hbr.trans (hb1.mono hzr)
      have hput' := hide hput
      have hfl' := hide hfl1
      clear hput hfl1 hF ho hfl
      go_wp2
      go_roundw
      case rel =>
        refine ⟨k + 1, ls ++ [x1], by omega, by go_num, hide (by rw [List.length_append, hls.out]; rfl), hput'.out, ?_, ((hBz).setCell (by simp) _).setCell (by simp) _⟩
        have hA : Above (w.heap.size + 1) w1 (putCells w1 w.heap.size (k * 2) [.int .i64 ts[k].1, .slice Ar nr cr]) := Above.put (by omega) _ (Above.refl _ _)
        have h7 := (hfl'.out.above voteF_kept hA (Nat.le_refl _)).hi_mono (Nat.le_of_eq (size_putCells [.int .i64 ts[k].1, .slice Ar nr cr] w1 w.heap.size (k * 2)).symm)
        exact h7
      case measure => simp [intOf]; omega
    · obtain rfl : k = n := by omega
      go_wp2
      go_ret
      rw [Nat.sub_self, List.replicate_zero, List.append_nil] at ho
      rw [List.take_of_length_le (by rw [hn'.out]; omega)] at hfl
      have hgs : w.heap.size < wr.heap.size := by have := hfl.le; omega
      exact ⟨_, _, _, rfl, ⟨w.heap.size, ls, rfl, Nat.le_refl _, hgs, ho, hfl⟩, hbr⟩

set_option maxRecDepth 100000 in
set_option maxHeartbeats 4000000 in
theorem toMsg_c (t : MsgT) (A B : Option Addr) (n c p d : Nat) (lo hi : Nat) (w : World) (h0 : RdN 7 clR w lo hi A n c t.2.2.2.2.2.1) (h1 : RdN 2 voteR w lo hi B p d t.2.2.2.2.2.2) (hhi : hi ≤ w.heap.size) (hz0 : t.2.2.2.2.2.1.length ≤ 1048576) (hz1 : szVotes t.2.2.2.2.2.2 ≤ 1048576) :
    Calls Tryd.prog 6 #[.agg #[.int .i64 t.1, .int .i64 t.2.1, .int .i64 t.2.2.1, .int .i64 t.2.2.2.1, .int .i64 t.2.2.2.2.1.1, .int .i64 t.2.2.2.2.1.2.1, .int .i64 t.2.2.2.2.1.2.2.1, .int .i64 t.2.2.2.2.1.2.2.2.1, .int .i64 t.2.2.2.2.1.2.2.2.2, .slice A n c, .slice B p d]] w fun e w' => ∃ (Ar Br : Option Addr) (nr cr pr dr : Nat), e = .returned (.agg #[.int .i64 t.1, .int .i64 t.2.1, .int .i64 t.2.2.1, .int .i64 t.2.2.2.1, .int .i64 t.2.2.2.2.1.1, .int .i64 t.2.2.2.2.1.2.1, .int .i64 t.2.2.2.2.1.2.2.1, .int .i64 t.2.2.2.2.1.2.2.2.1, .int .i64 t.2.2.2.2.1.2.2.2.2, .slice Ar nr cr, .slice Br pr dr]) ∧ msgF w' w.heap.size w'.heap.size [.int .i64 t.1, .int .i64 t.2.1, .int .i64 t.2.2.1, .int .i64 t.2.2.2.1, .int .i64 t.2.2.2.2.1.1, .int .i64 t.2.2.2.2.1.2.1, .int .i64 t.2.2.2.2.1.2.2.1, .int .i64 t.2.2.2.2.1.2.2.2.1, .int .i64 t.2.2.2.2.1.2.2.2.2, .slice Ar nr cr, .slice Br pr dr] t ∧ Below w.heap.size w w' := by
  have hB : Below w.heap.size w (((w.alloc (.cells #[.int .i64 t.1, .int .i64 t.2.1, .int .i64 t.2.2.1, .int .i64 t.2.2.2.1, .int .i64 t.2.2.2.2.1.1, .int .i64 t.2.2.2.2.1.2.1, .int .i64 t.2.2.2.2.1.2.2.1, .int .i64 t.2.2.2.2.1.2.2.2.1, .int .i64 t.2.2.2.2.1.2.2.2.2, .slice A n c, .slice B p d] 27)).alloc (.cells #[.int .i64 0, .int .i64 0, .int .i64 0, .int .i64 0, .int .i64 0, .int .i64 0, .int .i64 0, .int .i64 0, .int .i64 0, .slice none 0 0, .slice none 0 0] 34)).alloc (.cells #[.int .i64 t.1, .int .i64 t.2.1, .int .i64 t.2.2.1, .int .i64 t.2.2.2.1, .int .i64 0, .int .i64 0, .int .i64 0, .int .i64 0, .int .i64 0, .slice none 0 0, .slice none 0 0] 34)) := ((Below.refl _ _).alloc (Nat.le_refl _) _ |>.alloc (by simp) _).alloc (by simp; omega) _
  obtain ⟨t1, t2, t3, t4⟩ := heap3 w (.cells #[.int .i64 t.1, .int .i64 t.2.1, .int .i64 t.2.2.1, .int .i64 t.2.2.2.1, .int .i64 t.2.2.2.2.1.1, .int .i64 t.2.2.2.2.1.2.1, .int .i64 t.2.2.2.2.1.2.2.1, .int .i64 t.2.2.2.2.1.2.2.2.1, .int .i64 t.2.2.2.2.1.2.2.2.2, .slice A n c, .slice B p d] 27) (.cells #[.int .i64 0, .int .i64 0, .int .i64 0, .int .i64 0, .int .i64 0, .int .i64 0, .int .i64 0, .int .i64 0, .int .i64 0, .slice none 0 0, .slice none 0 0] 34) (.cells #[.int .i64 t.1, .int .i64 t.2.1, .int .i64 t.2.2.1, .int .i64 t.2.2.2.1, .int .i64 0, .int .i64 0, .int .i64 0, .int .i64 0, .int .i64 0, .slice none 0 0, .slice none 0 0] 34)
  have x4 : (((w.alloc (.cells #[.int .i64 t.1, .int .i64 t.2.1, .int .i64 t.2.2.1, .int .i64 t.2.2.2.1, .int .i64 t.2.2.2.2.1.1, .int .i64 t.2.2.2.2.1.2.1, .int .i64 t.2.2.2.2.1.2.2.1, .int .i64 t.2.2.2.2.1.2.2.2.1, .int .i64 t.2.2.2.2.1.2.2.2.2, .slice A n c, .slice B p d] 27)).alloc (.cells #[.int .i64 0, .int .i64 0, .int .i64 0, .int .i64 0, .int .i64 0, .int .i64 0, .int .i64 0, .int .i64 0, .int .i64 0, .slice none 0 0, .slice none 0 0] 34)).alloc (.cells #[.int .i64 t.1, .int .i64 t.2.1, .int .i64 t.2.2.1, .int .i64 t.2.2.2.1, .int .i64 0, .int .i64 0, .int .i64 0, .int .i64 0, .int .i64 0, .slice none 0 0, .slice none 0 0] 34)).cell? ⟨w.heap.size, 4, none⟩ = some (.int .i64 t.2.2.2.2.1.1) := by simp only [World.cell?, t1]; rfl
  have x5 : (((w.alloc (.cells #[.int .i64 t.1, .int .i64 t.2.1, .int .i64 t.2.2.1, .int .i64 t.2.2.2.1, .int .i64 t.2.2.2.2.1.1, .int .i64 t.2.2.2.2.1.2.1, .int .i64 t.2.2.2.2.1.2.2.1, .int .i64 t.2.2.2.2.1.2.2.2.1, .int .i64 t.2.2.2.2.1.2.2.2.2, .slice A n c, .slice B p d] 27)).alloc (.cells #[.int .i64 0, .int .i64 0, .int .i64 0, .int .i64 0, .int .i64 0, .int .i64 0, .int .i64 0, .int .i64 0, .int .i64 0, .slice none 0 0, .slice none 0 0] 34)).alloc (.cells #[.int .i64 t.1, .int .i64 t.2.1, .int .i64 t.2.2.1, .int .i64 t.2.2.2.1, .int .i64 0, .int .i64 0, .int .i64 0, .int .i64 0, .int .i64 0, .slice none 0 0, .slice none 0 0] 34)).cell? ⟨w.heap.size, 5, none⟩ = some (.int .i64 t.2.2.2.2.1.2.1) := by simp only [World.cell?, t1]; rfl
  have x6 : (((w.alloc (.cells #[.int .i64 t.1, .int .i64 t.2.1, .int .i64 t.2.2.1, .int .i64 t.2.2.2.1, .int .i64 t.2.2.2.2.1.1, .int .i64 t.2.2.2.2.1.2.1, .int .i64 t.2.2.2.2.1.2.2.1, .int .i64 t.2.2.2.2.1.2.2.2.1, .int .i64 t.2.2.2.2.1.2.2.2.2, .slice A n c, .slice B p d] 27)).alloc (.cells #[.int .i64 0, .int .i64 0, .int .i64 0, .int .i64 0, .int .i64 0, .int .i64 0, .int .i64 0, .int .i64 0, .int .i64 0, .slice none 0 0, .slice none 0 0] 34)).alloc (.cells #[.int .i64 t.1, .int .i64 t.2.1, .int .i64 t.2.2.1, .int .i64 t.2.2.2.1, .int .i64 0, .int .i64 0, .int .i64 0, .int .i64 0, .int .i64 0, .slice none 0 0, .slice none 0 0] 34)).cell? ⟨w.heap.size, 6, none⟩ = some (.int .i64 t.2.2.2.2.1.2.2.1) := by simp only [World.cell?, t1]; rfl
  have x7 : (((w.alloc (.cells #[.int .i64 t.1, .int .i64 t.2.1, .int .i64 t.2.2.1, .int .i64 t.2.2.2.1, .int .i64 t.2.2.2.2.1.1, .int .i64 t.2.2.2.2.1.2.1, .int .i64 t.2.2.2.2.1.2.2.1, .int .i64 t.2.2.2.2.1.2.2.2.1, .int .i64 t.2.2.2.2.1.2.2.2.2, .slice A n c, .slice B p d] 27)).alloc (.cells #[.int .i64 0, .int .i64 0, .int .i64 0, .int .i64 0, .int .i64 0, .int .i64 0, .int .i64 0, .int .i64 0, .int .i64 0, .slice none 0 0, .slice none 0 0] 34)).alloc (.cells #[.int .i64 t.1, .int .i64 t.2.1, .int .i64 t.2.2.1, .int .i64 t.2.2.2.1, .int .i64 0, .int .i64 0, .int .i64 0, .int .i64 0, .int .i64 0, .slice none 0 0, .slice none 0 0] 34)).cell? ⟨w.heap.size, 7, none⟩ = some (.int .i64 t.2.2.2.2.1.2.2.2.1) := by simp only [World.cell?, t1]; rfl
  have x8 : (((w.alloc (.cells #[.int .i64 t.1, .int .i64 t.2.1, .int .i64 t.2.2.1, .int .i64 t.2.2.2.1, .int .i64 t.2.2.2.2.1.1, .int .i64 t.2.2.2.2.1.2.1, .int .i64 t.2.2.2.2.1.2.2.1, .int .i64 t.2.2.2.2.1.2.2.2.1, .int .i64 t.2.2.2.2.1.2.2.2.2, .slice A n c, .slice B p d] 27)).alloc (.cells #[.int .i64 0, .int .i64 0, .int .i64 0, .int .i64 0, .int .i64 0, .int .i64 0, .int .i64 0, .int .i64 0, .int .i64 0, .slice none 0 0, .slice none 0 0] 34)).alloc (.cells #[.int .i64 t.1, .int .i64 t.2.1, .int .i64 t.2.2.1, .int .i64 t.2.2.2.1, .int .i64 0, .int .i64 0, .int .i64 0, .int .i64 0, .int .i64 0, .slice none 0 0, .slice none 0 0] 34)).cell? ⟨w.heap.size, 8, none⟩ = some (.int .i64 t.2.2.2.2.1.2.2.2.2) := by simp only [World.cell?, t1]; rfl
  have x9 : (((w.alloc (.cells #[.int .i64 t.1, .int .i64 t.2.1, .int .i64 t.2.2.1, .int .i64 t.2.2.2.1, .int .i64 t.2.2.2.2.1.1, .int .i64 t.2.2.2.2.1.2.1, .int .i64 t.2.2.2.2.1.2.2.1, .int .i64 t.2.2.2.2.1.2.2.2.1, .int .i64 t.2.2.2.2.1.2.2.2.2, .slice A n c, .slice B p d] 27)).alloc (.cells #[.int .i64 0, .int .i64 0, .int .i64 0, .int .i64 0, .int .i64 0, .int .i64 0, .int .i64 0, .int .i64 0, .int .i64 0, .slice none 0 0, .slice none 0 0] 34)).alloc (.cells #[.int .i64 t.1, .int .i64 t.2.1, .int .i64 t.2.2.1, .int .i64 t.2.2.2.1, .int .i64 0, .int .i64 0, .int .i64 0, .int .i64 0, .int .i64 0, .slice none 0 0, .slice none 0 0] 34)).cell? ⟨w.heap.size, 9, none⟩ = some (.slice A n c) := by simp only [World.cell?, t1]; rfl
  have x10 : (((w.alloc (.cells #[.int .i64 t.1, .int .i64 t.2.1, .int .i64 t.2.2.1, .int .i64 t.2.2.2.1, .int .i64 t.2.2.2.2.1.1, .int .i64 t.2.2.2.2.1.2.1, .int .i64 t.2.2.2.2.1.2.2.1, .int .i64 t.2.2.2.2.1.2.2.2.1, .int .i64 t.2.2.2.2.1.2.2.2.2, .slice A n c, .slice B p d] 27)).alloc (.cells #[.int .i64 0, .int .i64 0, .int .i64 0, .int .i64 0, .int .i64 0, .int .i64 0, .int .i64 0, .int .i64 0, .int .i64 0, .slice none 0 0, .slice none 0 0] 34)).alloc (.cells #[.int .i64 t.1, .int .i64 t.2.1, .int .i64 t.2.2.1, .int .i64 t.2.2.2.1, .int .i64 0, .int .i64 0, .int .i64 0, .int .i64 0, .int .i64 0, .slice none 0 0, .slice none 0 0] 34)).cell? ⟨w.heap.size, 10, none⟩ = some (.slice B p d) := by simp only [World.cell?, t1]; rfl
  have z0 : (((w.alloc (.cells #[.int .i64 t.1, .int .i64 t.2.1, .int .i64 t.2.2.1, .int .i64 t.2.2.2.1, .int .i64 t.2.2.2.2.1.1, .int .i64 t.2.2.2.2.1.2.1, .int .i64 t.2.2.2.2.1.2.2.1, .int .i64 t.2.2.2.2.1.2.2.2.1, .int .i64 t.2.2.2.2.1.2.2.2.2, .slice A n c, .slice B p d] 27)).alloc (.cells #[.int .i64 0, .int .i64 0, .int .i64 0, .int .i64 0, .int .i64 0, .int .i64 0, .int .i64 0, .int .i64 0, .int .i64 0, .slice none 0 0, .slice none 0 0] 34)).alloc (.cells #[.int .i64 t.1, .int .i64 t.2.1, .int .i64 t.2.2.1, .int .i64 t.2.2.2.1, .int .i64 0, .int .i64 0, .int .i64 0, .int .i64 0, .int .i64 0, .slice none 0 0, .slice none 0 0] 34)).cell? ⟨w.heap.size + 1, 0, none⟩ = some (.int .i64 0) := by simp only [World.cell?, t2]; rfl
  have z1 : (((w.alloc (.cells #[.int .i64 t.1, .int .i64 t.2.1, .int .i64 t.2.2.1, .int .i64 t.2.2.2.1, .int .i64 t.2.2.2.2.1.1, .int .i64 t.2.2.2.2.1.2.1, .int .i64 t.2.2.2.2.1.2.2.1, .int .i64 t.2.2.2.2.1.2.2.2.1, .int .i64 t.2.2.2.2.1.2.2.2.2, .slice A n c, .slice B p d] 27)).alloc (.cells #[.int .i64 0, .int .i64 0, .int .i64 0, .int .i64 0, .int .i64 0, .int .i64 0, .int .i64 0, .int .i64 0, .int .i64 0, .slice none 0 0, .slice none 0 0] 34)).alloc (.cells #[.int .i64 t.1, .int .i64 t.2.1, .int .i64 t.2.2.1, .int .i64 t.2.2.2.1, .int .i64 0, .int .i64 0, .int .i64 0, .int .i64 0, .int .i64 0, .slice none 0 0, .slice none 0 0] 34)).cell? ⟨w.heap.size + 1, 1, none⟩ = some (.int .i64 0) := by simp only [World.cell?, t2]; rfl
  have z2 : (((w.alloc (.cells #[.int .i64 t.1, .int .i64 t.2.1, .int .i64 t.2.2.1, .int .i64 t.2.2.2.1, .int .i64 t.2.2.2.2.1.1, .int .i64 t.2.2.2.2.1.2.1, .int .i64 t.2.2.2.2.1.2.2.1, .int .i64 t.2.2.2.2.1.2.2.2.1, .int .i64 t.2.2.2.2.1.2.2.2.2, .slice A n c, .slice B p d] 27)).alloc (.cells #[.int .i64 0, .int .i64 0, .int .i64 0, .int .i64 0, .int .i64 0, .int .i64 0, .int .i64 0, .int .i64 0, .int .i64 0, .slice none 0 0, .slice none 0 0] 34)).alloc (.cells #[.int .i64 t.1, .int .i64 t.2.1, .int .i64 t.2.2.1, .int .i64 t.2.2.2.1, .int .i64 0, .int .i64 0, .int .i64 0, .int .i64 0, .int .i64 0, .slice none 0 0, .slice none 0 0] 34)).cell? ⟨w.heap.size + 1, 2, none⟩ = some (.int .i64 0) := by simp only [World.cell?, t2]; rfl
  have z3 : (((w.alloc (.cells #[.int .i64 t.1, .int .i64 t.2.1, .int .i64 t.2.2.1, .int .i64 t.2.2.2.1, .int .i64 t.2.2.2.2.1.1, .int .i64 t.2.2.2.2.1.2.1, .int .i64 t.2.2.2.2.1.2.2.1, .int .i64 t.2.2.2.2.1.2.2.2.1, .int .i64 t.2.2.2.2.1.2.2.2.2, .slice A n c, .slice B p d] 27)).alloc (.cells #[.int .i64 0, .int .i64 0, .int .i64 0, .int .i64 0, .int .i64 0, .int .i64 0, .int .i64 0, .int .i64 0, .int .i64 0, .slice none 0 0, .slice none 0 0] 34)).alloc (.cells #[.int .i64 t.1, .int .i64 t.2.1, .int .i64 t.2.2.1, .int .i64 t.2.2.2.1, .int .i64 0, .int .i64 0, .int .i64 0, .int .i64 0, .int .i64 0, .slice none 0 0, .slice none 0 0] 34)).cell? ⟨w.heap.size + 1, 3, none⟩ = some (.int .i64 0) := by simp only [World.cell?, t2]; rfl
  have z4 : (((w.alloc (.cells #[.int .i64 t.1, .int .i64 t.2.1, .int .i64 t.2.2.1, .int .i64 t.2.2.2.1, .int .i64 t.2.2.2.2.1.1, .int .i64 t.2.2.2.2.1.2.1, .int .i64 t.2.2.2.2.1.2.2.1, .int .i64 t.2.2.2.2.1.2.2.2.1, .int .i64 t.2.2.2.2.1.2.2.2.2, .slice A n c, .slice B p d] 27)).alloc (.cells #[.int .i64 0, .int .i64 0, .int .i64 0, .int .i64 0, .int .i64 0, .int .i64 0, .int .i64 0, .int .i64 0, .int .i64 0, .slice none 0 0, .slice none 0 0] 34)).alloc (.cells #[.int .i64 t.1, .int .i64 t.2.1, .int .i64 t.2.2.1, .int .i64 t.2.2.2.1, .int .i64 0, .int .i64 0, .int .i64 0, .int .i64 0, .int .i64 0, .slice none 0 0, .slice none 0 0] 34)).cell? ⟨w.heap.size + 1, 4, none⟩ = some (.int .i64 0) := by simp only [World.cell?, t2]; rfl
  have z5 : (((w.alloc (.cells #[.int .i64 t.1, .int .i64 t.2.1, .int .i64 t.2.2.1, .int .i64 t.2.2.2.1, .int .i64 t.2.2.2.2.1.1, .int .i64 t.2.2.2.2.1.2.1, .int .i64 t.2.2.2.2.1.2.2.1, .int .i64 t.2.2.2.2.1.2.2.2.1, .int .i64 t.2.2.2.2.1.2.2.2.2, .slice A n c, .slice B p d] 27)).alloc (.cells #[.int .i64 0, .int .i64 0, .int .i64 0, .int .i64 0, .int .i64 0, .int .i64 0, .int .i64 0, .int .i64 0, .int .i64 0, .slice none 0 0, .slice none 0 0] 34)).alloc (.cells #[.int .i64 t.1, .int .i64 t.2.1, .int .i64 t.2.2.1, .int .i64 t.2.2.2.1, .int .i64 0, .int .i64 0, .int .i64 0, .int .i64 0, .int .i64 0, .slice none 0 0, .slice none 0 0] 34)).cell? ⟨w.heap.size + 1, 5, none⟩ = some (.int .i64 0) := by simp only [World.cell?, t2]; rfl
  have z6 : (((w.alloc (.cells #[.int .i64 t.1, .int .i64 t.2.1, .int .i64 t.2.2.1, .int .i64 t.2.2.2.1, .int .i64 t.2.2.2.2.1.1, .int .i64 t.2.2.2.2.1.2.1, .int .i64 t.2.2.2.2.1.2.2.1, .int .i64 t.2.2.2.2.1.2.2.2.1, .int .i64 t.2.2.2.2.1.2.2.2.2, .slice A n c, .slice B p d] 27)).alloc (.cells #[.int .i64 0, .int .i64 0, .int .i64 0, .int .i64 0, .int .i64 0, .int .i64 0, .int .i64 0, .int .i64 0, .int .i64 0, .slice none 0 0, .slice none 0 0] 34)).alloc (.cells #[.int .i64 t.1, .int .i64 t.2.1, .int .i64 t.2.2.1, .int .i64 t.2.2.2.1, .int .i64 0, .int .i64 0, .int .i64 0, .int .i64 0, .int .i64 0, .slice none 0 0, .slice none 0 0] 34)).cell? ⟨w.heap.size + 1, 6, none⟩ = some (.int .i64 0) := by simp only [World.cell?, t2]; rfl
  have z7 : (((w.alloc (.cells #[.int .i64 t.1, .int .i64 t.2.1, .int .i64 t.2.2.1, .int .i64 t.2.2.2.1, .int .i64 t.2.2.2.2.1.1, .int .i64 t.2.2.2.2.1.2.1, .int .i64 t.2.2.2.2.1.2.2.1, .int .i64 t.2.2.2.2.1.2.2.2.1, .int .i64 t.2.2.2.2.1.2.2.2.2, .slice A n c, .slice B p d] 27)).alloc (.cells #[.int .i64 0, .int .i64 0, .int .i64 0, .int .i64 0, .int .i64 0, .int .i64 0, .int .i64 0, .int .i64 0, .int .i64 0, .slice none 0 0, .slice none 0 0] 34)).alloc (.cells #[.int .i64 t.1, .int .i64 t.2.1, .int .i64 t.2.2.1, .int .i64 t.2.2.2.1, .int .i64 0, .int .i64 0, .int .i64 0, .int .i64 0, .int .i64 0, .slice none 0 0, .slice none 0 0] 34)).cell? ⟨w.heap.size + 1, 7, none⟩ = some (.int .i64 0) := by simp only [World.cell?, t2]; rfl
  have z8 : (((w.alloc (.cells #[.int .i64 t.1, .int .i64 t.2.1, .int .i64 t.2.2.1, .int .i64 t.2.2.2.1, .int .i64 t.2.2.2.2.1.1, .int .i64 t.2.2.2.2.1.2.1, .int .i64 t.2.2.2.2.1.2.2.1, .int .i64 t.2.2.2.2.1.2.2.2.1, .int .i64 t.2.2.2.2.1.2.2.2.2, .slice A n c, .slice B p d] 27)).alloc (.cells #[.int .i64 0, .int .i64 0, .int .i64 0, .int .i64 0, .int .i64 0, .int .i64 0, .int .i64 0, .int .i64 0, .int .i64 0, .slice none 0 0, .slice none 0 0] 34)).alloc (.cells #[.int .i64 t.1, .int .i64 t.2.1, .int .i64 t.2.2.1, .int .i64 t.2.2.2.1, .int .i64 0, .int .i64 0, .int .i64 0, .int .i64 0, .int .i64 0, .slice none 0 0, .slice none 0 0] 34)).cell? ⟨w.heap.size + 1, 8, none⟩ = some (.int .i64 0) := by simp only [World.cell?, t2]; rfl
  have z9 : (((w.alloc (.cells #[.int .i64 t.1, .int .i64 t.2.1, .int .i64 t.2.2.1, .int .i64 t.2.2.2.1, .int .i64 t.2.2.2.2.1.1, .int .i64 t.2.2.2.2.1.2.1, .int .i64 t.2.2.2.2.1.2.2.1, .int .i64 t.2.2.2.2.1.2.2.2.1, .int .i64 t.2.2.2.2.1.2.2.2.2, .slice A n c, .slice B p d] 27)).alloc (.cells #[.int .i64 0, .int .i64 0, .int .i64 0, .int .i64 0, .int .i64 0, .int .i64 0, .int .i64 0, .int .i64 0, .int .i64 0, .slice none 0 0, .slice none 0 0] 34)).alloc (.cells #[.int .i64 t.1, .int .i64 t.2.1, .int .i64 t.2.2.1, .int .i64 t.2.2.2.1, .int .i64 0, .int .i64 0, .int .i64 0, .int .i64 0, .int .i64 0, .slice none 0 0, .slice none 0 0] 34)).cell? ⟨w.heap.size + 1, 9, none⟩ = some (.slice none 0 0) := by simp only [World.cell?, t2]; rfl
  have z10 : (((w.alloc (.cells #[.int .i64 t.1, .int .i64 t.2.1, .int .i64 t.2.2.1, .int .i64 t.2.2.2.1, .int .i64 t.2.2.2.2.1.1, .int .i64 t.2.2.2.2.1.2.1, .int .i64 t.2.2.2.2.1.2.2.1, .int .i64 t.2.2.2.2.1.2.2.2.1, .int .i64 t.2.2.2.2.1.2.2.2.2, .slice A n c, .slice B p d] 27)).alloc (.cells #[.int .i64 0, .int .i64 0, .int .i64 0, .int .i64 0, .int .i64 0, .int .i64 0, .int .i64 0, .int .i64 0, .int .i64 0, .slice none 0 0, .slice none 0 0] 34)).alloc (.cells #[.int .i64 t.1, .int .i64 t.2.1, .int .i64 t.2.2.1, .int .i64 t.2.2.2.1, .int .i64 0, .int .i64 0, .int .i64 0, .int .i64 0, .int .i64 0, .slice none 0 0, .slice none 0 0] 34)).cell? ⟨w.heap.size + 1, 10, none⟩ = some (.slice none 0 0) := by simp only [World.cell?, t2]; rfl
  have zf0 : (((w.alloc (.cells #[.int .i64 t.1, .int .i64 t.2.1, .int .i64 t.2.2.1, .int .i64 t.2.2.2.1, .int .i64 t.2.2.2.2.1.1, .int .i64 t.2.2.2.2.1.2.1, .int .i64 t.2.2.2.2.1.2.2.1, .int .i64 t.2.2.2.2.1.2.2.2.1, .int .i64 t.2.2.2.2.1.2.2.2.2, .slice A n c, .slice B p d] 27)).alloc (.cells #[.int .i64 0, .int .i64 0, .int .i64 0, .int .i64 0, .int .i64 0, .int .i64 0, .int .i64 0, .int .i64 0, .int .i64 0, .slice none 0 0, .slice none 0 0] 34)).alloc (.cells #[.int .i64 t.1, .int .i64 t.2.1, .int .i64 t.2.2.1, .int .i64 t.2.2.2.1, .int .i64 0, .int .i64 0, .int .i64 0, .int .i64 0, .int .i64 0, .slice none 0 0, .slice none 0 0] 34)).frozen? ⟨w.heap.size + 1, 0, none⟩ = false := by simp only [World.frozen?, t2]; simp
  have zf1 : (((w.alloc (.cells #[.int .i64 t.1, .int .i64 t.2.1, .int .i64 t.2.2.1, .int .i64 t.2.2.2.1, .int .i64 t.2.2.2.2.1.1, .int .i64 t.2.2.2.2.1.2.1, .int .i64 t.2.2.2.2.1.2.2.1, .int .i64 t.2.2.2.2.1.2.2.2.1, .int .i64 t.2.2.2.2.1.2.2.2.2, .slice A n c, .slice B p d] 27)).alloc (.cells #[.int .i64 0, .int .i64 0, .int .i64 0, .int .i64 0, .int .i64 0, .int .i64 0, .int .i64 0, .int .i64 0, .int .i64 0, .slice none 0 0, .slice none 0 0] 34)).alloc (.cells #[.int .i64 t.1, .int .i64 t.2.1, .int .i64 t.2.2.1, .int .i64 t.2.2.2.1, .int .i64 0, .int .i64 0, .int .i64 0, .int .i64 0, .int .i64 0, .slice none 0 0, .slice none 0 0] 34)).frozen? ⟨w.heap.size + 1, 1, none⟩ = false := by simp only [World.frozen?, t2]; simp
  have zf2 : (((w.alloc (.cells #[.int .i64 t.1, .int .i64 t.2.1, .int .i64 t.2.2.1, .int .i64 t.2.2.2.1, .int .i64 t.2.2.2.2.1.1, .int .i64 t.2.2.2.2.1.2.1, .int .i64 t.2.2.2.2.1.2.2.1, .int .i64 t.2.2.2.2.1.2.2.2.1, .int .i64 t.2.2.2.2.1.2.2.2.2, .slice A n c, .slice B p d] 27)).alloc (.cells #[.int .i64 0, .int .i64 0, .int .i64 0, .int .i64 0, .int .i64 0, .int .i64 0, .int .i64 0, .int .i64 0, .int .i64 0, .slice none 0 0, .slice none 0 0] 34)).alloc (.cells #[.int .i64 t.1, .int .i64 t.2.1, .int .i64 t.2.2.1, .int .i64 t.2.2.2.1, .int .i64 0, .int .i64 0, .int .i64 0, .int .i64 0, .int .i64 0, .slice none 0 0, .slice none 0 0] 34)).frozen? ⟨w.heap.size + 1, 2, none⟩ = false := by simp only [World.frozen?, t2]; simp
  have zf3 : (((w.alloc (.cells #[.int .i64 t.1, .int .i64 t.2.1, .int .i64 t.2.2.1, .int .i64 t.2.2.2.1, .int .i64 t.2.2.2.2.1.1, .int .i64 t.2.2.2.2.1.2.1, .int .i64 t.2.2.2.2.1.2.2.1, .int .i64 t.2.2.2.2.1.2.2.2.1, .int .i64 t.2.2.2.2.1.2.2.2.2, .slice A n c, .slice B p d] 27)).alloc (.cells #[.int .i64 0, .int .i64 0, .int .i64 0, .int .i64 0, .int .i64 0, .int .i64 0, .int .i64 0, .int .i64 0, .int .i64 0, .slice none 0 0, .slice none 0 0] 34)).alloc (.cells #[.int .i64 t.1, .int .i64 t.2.1, .int .i64 t.2.2.1, .int .i64 t.2.2.2.1, .int .i64 0, .int .i64 0, .int .i64 0, .int .i64 0, .int .i64 0, .slice none 0 0, .slice none 0 0] 34)).frozen? ⟨w.heap.size + 1, 3, none⟩ = false := by simp only [World.frozen?, t2]; simp
  have zf4 : (((w.alloc (.cells #[.int .i64 t.1, .int .i64 t.2.1, .int .i64 t.2.2.1, .int .i64 t.2.2.2.1, .int .i64 t.2.2.2.2.1.1, .int .i64 t.2.2.2.2.1.2.1, .int .i64 t.2.2.2.2.1.2.2.1, .int .i64 t.2.2.2.2.1.2.2.2.1, .int .i64 t.2.2.2.2.1.2.2.2.2, .slice A n c, .slice B p d] 27)).alloc (.cells #[.int .i64 0, .int .i64 0, .int .i64 0, .int .i64 0, .int .i64 0, .int .i64 0, .int .i64 0, .int .i64 0, .int .i64 0, .slice none 0 0, .slice none 0 0] 34)).alloc (.cells #[.int .i64 t.1, .int .i64 t.2.1, .int .i64 t.2.2.1, .int .i64 t.2.2.2.1, .int .i64 0, .int .i64 0, .int .i64 0, .int .i64 0, .int .i64 0, .slice none 0 0, .slice none 0 0] 34)).frozen? ⟨w.heap.size + 1, 4, none⟩ = false := by simp only [World.frozen?, t2]; simp
  have zf5 : (((w.alloc (.cells #[.int .i64 t.1, .int .i64 t.2.1, .int .i64 t.2.2.1, .int .i64 t.2.2.2.1, .int .i64 t.2.2.2.2.1.1, .int .i64 t.2.2.2.2.1.2.1, .int .i64 t.2.2.2.2.1.2.2.1, .int .i64 t.2.2.2.2.1.2.2.2.1, .int .i64 t.2.2.2.2.1.2.2.2.2, .slice A n c, .slice B p d] 27)).alloc (.cells #[.int .i64 0, .int .i64 0, .int .i64 0, .int .i64 0, .int .i64 0, .int .i64 0, .int .i64 0, .int .i64 0, .int .i64 0, .slice none 0 0, .slice none 0 0] 34)).alloc (.cells #[.int .i64 t.1, .int .i64 t.2.1, .int .i64 t.2.2.1, .int .i64 t.2.2.2.1, .int .i64 0, .int .i64 0, .int .i64 0, .int .i64 0, .int .i64 0, .slice none 0 0, .slice none 0 0] 34)).frozen? ⟨w.heap.size + 1, 5, none⟩ = false := by simp only [World.frozen?, t2]; simp
  have zf6 : (((w.alloc (.cells #[.int .i64 t.1, .int .i64 t.2.1, .int .i64 t.2.2.1, .int .i64 t.2.2.2.1, .int .i64 t.2.2.2.2.1.1, .int .i64 t.2.2.2.2.1.2.1, .int .i64 t.2.2.2.2.1.2.2.1, .int .i64 t.2.2.2.2.1.2.2.2.1, .int .i64 t.2.2.2.2.1.2.2.2.2, .slice A n c, .slice B p d] 27)).alloc (.cells #[.int .i64 0, .int .i64 0, .int .i64 0, .int .i64 0, .int .i64 0, .int .i64 0, .int .i64 0, .int .i64 0, .int .i64 0, .slice none 0 0, .slice none 0 0] 34)).alloc (.cells #[.int .i64 t.1, .int .i64 t.2.1, .int .i64 t.2.2.1, .int .i64 t.2.2.2.1, .int .i64 0, .int .i64 0, .int .i64 0, .int .i64 0, .int .i64 0, .slice none 0 0, .slice none 0 0] 34)).frozen? ⟨w.heap.size + 1, 6, none⟩ = false := by simp only [World.frozen?, t2]; simp
  have zf7 : (((w.alloc (.cells #[.int .i64 t.1, .int .i64 t.2.1, .int .i64 t.2.2.1, .int .i64 t.2.2.2.1, .int .i64 t.2.2.2.2.1.1, .int .i64 t.2.2.2.2.1.2.1, .int .i64 t.2.2.2.2.1.2.2.1, .int .i64 t.2.2.2.2.1.2.2.2.1, .int .i64 t.2.2.2.2.1.2.2.2.2, .slice A n c, .slice B p d] 27)).alloc (.cells #[.int .i64 0, .int .i64 0, .int .i64 0, .int .i64 0, .int .i64 0, .int .i64 0, .int .i64 0, .int .i64 0, .int .i64 0, .slice none 0 0, .slice none 0 0] 34)).alloc (.cells #[.int .i64 t.1, .int .i64 t.2.1, .int .i64 t.2.2.1, .int .i64 t.2.2.2.1, .int .i64 0, .int .i64 0, .int .i64 0, .int .i64 0, .int .i64 0, .slice none 0 0, .slice none 0 0] 34)).frozen? ⟨w.heap.size + 1, 7, none⟩ = false := by simp only [World.frozen?, t2]; simp
  have zf8 : (((w.alloc (.cells #[.int .i64 t.1, .int .i64 t.2.1, .int .i64 t.2.2.1, .int .i64 t.2.2.2.1, .int .i64 t.2.2.2.2.1.1, .int .i64 t.2.2.2.2.1.2.1, .int .i64 t.2.2.2.2.1.2.2.1, .int .i64 t.2.2.2.2.1.2.2.2.1, .int .i64 t.2.2.2.2.1.2.2.2.2, .slice A n c, .slice B p d] 27)).alloc (.cells #[.int .i64 0, .int .i64 0, .int .i64 0, .int .i64 0, .int .i64 0, .int .i64 0, .int .i64 0, .int .i64 0, .int .i64 0, .slice none 0 0, .slice none 0 0] 34)).alloc (.cells #[.int .i64 t.1, .int .i64 t.2.1, .int .i64 t.2.2.1, .int .i64 t.2.2.2.1, .int .i64 0, .int .i64 0, .int .i64 0, .int .i64 0, .int .i64 0, .slice none 0 0, .slice none 0 0] 34)).frozen? ⟨w.heap.size + 1, 8, none⟩ = false := by simp only [World.frozen?, t2]; simp
  have zf9 : (((w.alloc (.cells #[.int .i64 t.1, .int .i64 t.2.1, .int .i64 t.2.2.1, .int .i64 t.2.2.2.1, .int .i64 t.2.2.2.2.1.1, .int .i64 t.2.2.2.2.1.2.1, .int .i64 t.2.2.2.2.1.2.2.1, .int .i64 t.2.2.2.2.1.2.2.2.1, .int .i64 t.2.2.2.2.1.2.2.2.2, .slice A n c, .slice B p d] 27)).alloc (.cells #[.int .i64 0, .int .i64 0, .int .i64 0, .int .i64 0, .int .i64 0, .int .i64 0, .int .i64 0, .int .i64 0, .int .i64 0, .slice none 0 0, .slice none 0 0] 34)).alloc (.cells #[.int .i64 t.1, .int .i64 t.2.1, .int .i64 t.2.2.1, .int .i64 t.2.2.2.1, .int .i64 0, .int .i64 0, .int .i64 0, .int .i64 0, .int .i64 0, .slice none 0 0, .slice none 0 0] 34)).frozen? ⟨w.heap.size + 1, 9, none⟩ = false := by simp only [World.frozen?, t2]; simp
  have zf10 : (((w.alloc (.cells #[.int .i64 t.1, .int .i64 t.2.1, .int .i64 t.2.2.1, .int .i64 t.2.2.2.1, .int .i64 t.2.2.2.2.1.1, .int .i64 t.2.2.2.2.1.2.1, .int .i64 t.2.2.2.2.1.2.2.1, .int .i64 t.2.2.2.2.1.2.2.2.1, .int .i64 t.2.2.2.2.1.2.2.2.2, .slice A n c, .slice B p d] 27)).alloc (.cells #[.int .i64 0, .int .i64 0, .int .i64 0, .int .i64 0, .int .i64 0, .int .i64 0, .int .i64 0, .int .i64 0, .int .i64 0, .slice none 0 0, .slice none 0 0] 34)).alloc (.cells #[.int .i64 t.1, .int .i64 t.2.1, .int .i64 t.2.2.1, .int .i64 t.2.2.2.1, .int .i64 0, .int .i64 0, .int .i64 0, .int .i64 0, .int .i64 0, .slice none 0 0, .slice none 0 0] 34)).frozen? ⟨w.heap.size + 1, 10, none⟩ = false := by simp only [World.frozen?, t2]; simp
  have y0 : (((w.alloc (.cells #[.int .i64 t.1, .int .i64 t.2.1, .int .i64 t.2.2.1, .int .i64 t.2.2.2.1, .int .i64 t.2.2.2.2.1.1, .int .i64 t.2.2.2.2.1.2.1, .int .i64 t.2.2.2.2.1.2.2.1, .int .i64 t.2.2.2.2.1.2.2.2.1, .int .i64 t.2.2.2.2.1.2.2.2.2, .slice A n c, .slice B p d] 27)).alloc (.cells #[.int .i64 0, .int .i64 0, .int .i64 0, .int .i64 0, .int .i64 0, .int .i64 0, .int .i64 0, .int .i64 0, .int .i64 0, .slice none 0 0, .slice none 0 0] 34)).alloc (.cells #[.int .i64 t.1, .int .i64 t.2.1, .int .i64 t.2.2.1, .int .i64 t.2.2.2.1, .int .i64 0, .int .i64 0, .int .i64 0, .int .i64 0, .int .i64 0, .slice none 0 0, .slice none 0 0] 34)).cell? ⟨w.heap.size + 1 + 1, 0, none⟩ = some (.int .i64 t.1) := by simp only [World.cell?, t3]; rfl
  have y1 : (((w.alloc (.cells #[.int .i64 t.1, .int .i64 t.2.1, .int .i64 t.2.2.1, .int .i64 t.2.2.2.1, .int .i64 t.2.2.2.2.1.1, .int .i64 t.2.2.2.2.1.2.1, .int .i64 t.2.2.2.2.1.2.2.1, .int .i64 t.2.2.2.2.1.2.2.2.1, .int .i64 t.2.2.2.2.1.2.2.2.2, .slice A n c, .slice B p d] 27)).alloc (.cells #[.int .i64 0, .int .i64 0, .int .i64 0, .int .i64 0, .int .i64 0, .int .i64 0, .int .i64 0, .int .i64 0, .int .i64 0, .slice none 0 0, .slice none 0 0] 34)).alloc (.cells #[.int .i64 t.1, .int .i64 t.2.1, .int .i64 t.2.2.1, .int .i64 t.2.2.2.1, .int .i64 0, .int .i64 0, .int .i64 0, .int .i64 0, .int .i64 0, .slice none 0 0, .slice none 0 0] 34)).cell? ⟨w.heap.size + 1 + 1, 1, none⟩ = some (.int .i64 t.2.1) := by simp only [World.cell?, t3]; rfl
  have y2 : (((w.alloc (.cells #[.int .i64 t.1, .int .i64 t.2.1, .int .i64 t.2.2.1, .int .i64 t.2.2.2.1, .int .i64 t.2.2.2.2.1.1, .int .i64 t.2.2.2.2.1.2.1, .int .i64 t.2.2.2.2.1.2.2.1, .int .i64 t.2.2.2.2.1.2.2.2.1, .int .i64 t.2.2.2.2.1.2.2.2.2, .slice A n c, .slice B p d] 27)).alloc (.cells #[.int .i64 0, .int .i64 0, .int .i64 0, .int .i64 0, .int .i64 0, .int .i64 0, .int .i64 0, .int .i64 0, .int .i64 0, .slice none 0 0, .slice none 0 0] 34)).alloc (.cells #[.int .i64 t.1, .int .i64 t.2.1, .int .i64 t.2.2.1, .int .i64 t.2.2.2.1, .int .i64 0, .int .i64 0, .int .i64 0, .int .i64 0, .int .i64 0, .slice none 0 0, .slice none 0 0] 34)).cell? ⟨w.heap.size + 1 + 1, 2, none⟩ = some (.int .i64 t.2.2.1) := by simp only [World.cell?, t3]; rfl
  have y3 : (((w.alloc (.cells #[.int .i64 t.1, .int .i64 t.2.1, .int .i64 t.2.2.1, .int .i64 t.2.2.2.1, .int .i64 t.2.2.2.2.1.1, .int .i64 t.2.2.2.2.1.2.1, .int .i64 t.2.2.2.2.1.2.2.1, .int .i64 t.2.2.2.2.1.2.2.2.1, .int .i64 t.2.2.2.2.1.2.2.2.2, .slice A n c, .slice B p d] 27)).alloc (.cells #[.int .i64 0, .int .i64 0, .int .i64 0, .int .i64 0, .int .i64 0, .int .i64 0, .int .i64 0, .int .i64 0, .int .i64 0, .slice none 0 0, .slice none 0 0] 34)).alloc (.cells #[.int .i64 t.1, .int .i64 t.2.1, .int .i64 t.2.2.1, .int .i64 t.2.2.2.1, .int .i64 0, .int .i64 0, .int .i64 0, .int .i64 0, .int .i64 0, .slice none 0 0, .slice none 0 0] 34)).cell? ⟨w.heap.size + 1 + 1, 3, none⟩ = some (.int .i64 t.2.2.2.1) := by simp only [World.cell?, t3]; rfl
  have y4 : (((w.alloc (.cells #[.int .i64 t.1, .int .i64 t.2.1, .int .i64 t.2.2.1, .int .i64 t.2.2.2.1, .int .i64 t.2.2.2.2.1.1, .int .i64 t.2.2.2.2.1.2.1, .int .i64 t.2.2.2.2.1.2.2.1, .int .i64 t.2.2.2.2.1.2.2.2.1, .int .i64 t.2.2.2.2.1.2.2.2.2, .slice A n c, .slice B p d] 27)).alloc (.cells #[.int .i64 0, .int .i64 0, .int .i64 0, .int .i64 0, .int .i64 0, .int .i64 0, .int .i64 0, .int .i64 0, .int .i64 0, .slice none 0 0, .slice none 0 0] 34)).alloc (.cells #[.int .i64 t.1, .int .i64 t.2.1, .int .i64 t.2.2.1, .int .i64 t.2.2.2.1, .int .i64 0, .int .i64 0, .int .i64 0, .int .i64 0, .int .i64 0, .slice none 0 0, .slice none 0 0] 34)).cell? ⟨w.heap.size + 1 + 1, 4, none⟩ = some (.int .i64 0) := by simp only [World.cell?, t3]; rfl
  have y5 : (((w.alloc (.cells #[.int .i64 t.1, .int .i64 t.2.1, .int .i64 t.2.2.1, .int .i64 t.2.2.2.1, .int .i64 t.2.2.2.2.1.1, .int .i64 t.2.2.2.2.1.2.1, .int .i64 t.2.2.2.2.1.2.2.1, .int .i64 t.2.2.2.2.1.2.2.2.1, .int .i64 t.2.2.2.2.1.2.2.2.2, .slice A n c, .slice B p d] 27)).alloc (.cells #[.int .i64 0, .int .i64 0, .int .i64 0, .int .i64 0, .int .i64 0, .int .i64 0, .int .i64 0, .int .i64 0, .int .i64 0, .slice none 0 0, .slice none 0 0] 34)).alloc (.cells #[.int .i64 t.1, .int .i64 t.2.1, .int .i64 t.2.2.1, .int .i64 t.2.2.2.1, .int .i64 0, .int .i64 0, .int .i64 0, .int .i64 0, .int .i64 0, .slice none 0 0, .slice none 0 0] 34)).cell? ⟨w.heap.size + 1 + 1, 5, none⟩ = some (.int .i64 0) := by simp only [World.cell?, t3]; rfl
  have y6 : (((w.alloc (.cells #[.int .i64 t.1, .int .i64 t.2.1, .int .i64 t.2.2.1, .int .i64 t.2.2.2.1, .int .i64 t.2.2.2.2.1.1, .int .i64 t.2.2.2.2.1.2.1, .int .i64 t.2.2.2.2.1.2.2.1, .int .i64 t.2.2.2.2.1.2.2.2.1, .int .i64 t.2.2.2.2.1.2.2.2.2, .slice A n c, .slice B p d] 27)).alloc (.cells #[.int .i64 0, .int .i64 0, .int .i64 0, .int .i64 0, .int .i64 0, .int .i64 0, .int .i64 0, .int .i64 0, .int .i64 0, .slice none 0 0, .slice none 0 0] 34)).alloc (.cells #[.int .i64 t.1, .int .i64 t.2.1, .int .i64 t.2.2.1, .int .i64 t.2.2.2.1, .int .i64 0, .int .i64 0, .int .i64 0, .int .i64 0, .int .i64 0, .slice none 0 0, .slice none 0 0] 34)).cell? ⟨w.heap.size + 1 + 1, 6, none⟩ = some (.int .i64 0) := by simp only [World.cell?, t3]; rfl
  have y7 : (((w.alloc (.cells #[.int .i64 t.1, .int .i64 t.2.1, .int .i64 t.2.2.1, .int .i64 t.2.2.2.1, .int .i64 t.2.2.2.2.1.1, .int .i64 t.2.2.2.2.1.2.1, .int .i64 t.2.2.2.2.1.2.2.1, .int .i64 t.2.2.2.2.1.2.2.2.1, .int .i64 t.2.2.2.2.1.2.2.2.2, .slice A n c, .slice B p d] 27)).alloc (.cells #[.int .i64 0, .int .i64 0, .int .i64 0, .int .i64 0, .int .i64 0, .int .i64 0, .int .i64 0, .int .i64 0, .int .i64 0, .slice none 0 0, .slice none 0 0] 34)).alloc (.cells #[.int .i64 t.1, .int .i64 t.2.1, .int .i64 t.2.2.1, .int .i64 t.2.2.2.1, .int .i64 0, .int .i64 0, .int .i64 0, .int .i64 0, .int .i64 0, .slice none 0 0, .slice none 0 0] 34)).cell? ⟨w.heap.size + 1 + 1, 7, none⟩ = some (.int .i64 0) := by simp only [World.cell?, t3]; rfl
  have y8 : (((w.alloc (.cells #[.int .i64 t.1, .int .i64 t.2.1, .int .i64 t.2.2.1, .int .i64 t.2.2.2.1, .int .i64 t.2.2.2.2.1.1, .int .i64 t.2.2.2.2.1.2.1, .int .i64 t.2.2.2.2.1.2.2.1, .int .i64 t.2.2.2.2.1.2.2.2.1, .int .i64 t.2.2.2.2.1.2.2.2.2, .slice A n c, .slice B p d] 27)).alloc (.cells #[.int .i64 0, .int .i64 0, .int .i64 0, .int .i64 0, .int .i64 0, .int .i64 0, .int .i64 0, .int .i64 0, .int .i64 0, .slice none 0 0, .slice none 0 0] 34)).alloc (.cells #[.int .i64 t.1, .int .i64 t.2.1, .int .i64 t.2.2.1, .int .i64 t.2.2.2.1, .int .i64 0, .int .i64 0, .int .i64 0, .int .i64 0, .int .i64 0, .slice none 0 0, .slice none 0 0] 34)).cell? ⟨w.heap.size + 1 + 1, 8, none⟩ = some (.int .i64 0) := by simp only [World.cell?, t3]; rfl
  have y9 : (((w.alloc (.cells #[.int .i64 t.1, .int .i64 t.2.1, .int .i64 t.2.2.1, .int .i64 t.2.2.2.1, .int .i64 t.2.2.2.2.1.1, .int .i64 t.2.2.2.2.1.2.1, .int .i64 t.2.2.2.2.1.2.2.1, .int .i64 t.2.2.2.2.1.2.2.2.1, .int .i64 t.2.2.2.2.1.2.2.2.2, .slice A n c, .slice B p d] 27)).alloc (.cells #[.int .i64 0, .int .i64 0, .int .i64 0, .int .i64 0, .int .i64 0, .int .i64 0, .int .i64 0, .int .i64 0, .int .i64 0, .slice none 0 0, .slice none 0 0] 34)).alloc (.cells #[.int .i64 t.1, .int .i64 t.2.1, .int .i64 t.2.2.1, .int .i64 t.2.2.2.1, .int .i64 0, .int .i64 0, .int .i64 0, .int .i64 0, .int .i64 0, .slice none 0 0, .slice none 0 0] 34)).cell? ⟨w.heap.size + 1 + 1, 9, none⟩ = some (.slice none 0 0) := by simp only [World.cell?, t3]; rfl
  have y10 : (((w.alloc (.cells #[.int .i64 t.1, .int .i64 t.2.1, .int .i64 t.2.2.1, .int .i64 t.2.2.2.1, .int .i64 t.2.2.2.2.1.1, .int .i64 t.2.2.2.2.1.2.1, .int .i64 t.2.2.2.2.1.2.2.1, .int .i64 t.2.2.2.2.1.2.2.2.1, .int .i64 t.2.2.2.2.1.2.2.2.2, .slice A n c, .slice B p d] 27)).alloc (.cells #[.int .i64 0, .int .i64 0, .int .i64 0, .int .i64 0, .int .i64 0, .int .i64 0, .int .i64 0, .int .i64 0, .int .i64 0, .slice none 0 0, .slice none 0 0] 34)).alloc (.cells #[.int .i64 t.1, .int .i64 t.2.1, .int .i64 t.2.2.1, .int .i64 t.2.2.2.1, .int .i64 0, .int .i64 0, .int .i64 0, .int .i64 0, .int .i64 0, .slice none 0 0, .slice none 0 0] 34)).cell? ⟨w.heap.size + 1 + 1, 10, none⟩ = some (.slice none 0 0) := by simp only [World.cell?, t3]; rfl
  have yf0 : (((w.alloc (.cells #[.int .i64 t.1, .int .i64 t.2.1, .int .i64 t.2.2.1, .int .i64 t.2.2.2.1, .int .i64 t.2.2.2.2.1.1, .int .i64 t.2.2.2.2.1.2.1, .int .i64 t.2.2.2.2.1.2.2.1, .int .i64 t.2.2.2.2.1.2.2.2.1, .int .i64 t.2.2.2.2.1.2.2.2.2, .slice A n c, .slice B p d] 27)).alloc (.cells #[.int .i64 0, .int .i64 0, .int .i64 0, .int .i64 0, .int .i64 0, .int .i64 0, .int .i64 0, .int .i64 0, .int .i64 0, .slice none 0 0, .slice none 0 0] 34)).alloc (.cells #[.int .i64 t.1, .int .i64 t.2.1, .int .i64 t.2.2.1, .int .i64 t.2.2.2.1, .int .i64 0, .int .i64 0, .int .i64 0, .int .i64 0, .int .i64 0, .slice none 0 0, .slice none 0 0] 34)).frozen? ⟨w.heap.size + 1 + 1, 0, none⟩ = false := by simp only [World.frozen?, t3]; simp
  have yf1 : (((w.alloc (.cells #[.int .i64 t.1, .int .i64 t.2.1, .int .i64 t.2.2.1, .int .i64 t.2.2.2.1, .int .i64 t.2.2.2.2.1.1, .int .i64 t.2.2.2.2.1.2.1, .int .i64 t.2.2.2.2.1.2.2.1, .int .i64 t.2.2.2.2.1.2.2.2.1, .int .i64 t.2.2.2.2.1.2.2.2.2, .slice A n c, .slice B p d] 27)).alloc (.cells #[.int .i64 0, .int .i64 0, .int .i64 0, .int .i64 0, .int .i64 0, .int .i64 0, .int .i64 0, .int .i64 0, .int .i64 0, .slice none 0 0, .slice none 0 0] 34)).alloc (.cells #[.int .i64 t.1, .int .i64 t.2.1, .int .i64 t.2.2.1, .int .i64 t.2.2.2.1, .int .i64 0, .int .i64 0, .int .i64 0, .int .i64 0, .int .i64 0, .slice none 0 0, .slice none 0 0] 34)).frozen? ⟨w.heap.size + 1 + 1, 1, none⟩ = false := by simp only [World.frozen?, t3]; simp
  have yf2 : (((w.alloc (.cells #[.int .i64 t.1, .int .i64 t.2.1, .int .i64 t.2.2.1, .int .i64 t.2.2.2.1, .int .i64 t.2.2.2.2.1.1, .int .i64 t.2.2.2.2.1.2.1, .int .i64 t.2.2.2.2.1.2.2.1, .int .i64 t.2.2.2.2.1.2.2.2.1, .int .i64 t.2.2.2.2.1.2.2.2.2, .slice A n c, .slice B p d] 27)).alloc (.cells #[.int .i64 0, .int .i64 0, .int .i64 0, .int .i64 0, .int .i64 0, .int .i64 0, .int .i64 0, .int .i64 0, .int .i64 0, .slice none 0 0, .slice none 0 0] 34)).alloc (.cells #[.int .i64 t.1, .int .i64 t.2.1, .int .i64 t.2.2.1, .int .i64 t.2.2.2.1, .int .i64 0, .int .i64 0, .int .i64 0, .int .i64 0, .int .i64 0, .slice none 0 0, .slice none 0 0] 34)).frozen? ⟨w.heap.size + 1 + 1, 2, none⟩ = false := by simp only [World.frozen?, t3]; simp
  have yf3 : (((w.alloc (.cells #[.int .i64 t.1, .int .i64 t.2.1, .int .i64 t.2.2.1, .int .i64 t.2.2.2.1, .int .i64 t.2.2.2.2.1.1, .int .i64 t.2.2.2.2.1.2.1, .int .i64 t.2.2.2.2.1.2.2.1, .int .i64 t.2.2.2.2.1.2.2.2.1, .int .i64 t.2.2.2.2.1.2.2.2.2, .slice A n c, .slice B p d] 27)).alloc (.cells #[.int .i64 0, .int .i64 0, .int .i64 0, .int .i64 0, .int .i64 0, .int .i64 0, .int .i64 0, .int .i64 0, .int .i64 0, .slice none 0 0, .slice none 0 0] 34)).alloc (.cells #[.int .i64 t.1, .int .i64 t.2.1, .int .i64 t.2.2.1, .int .i64 t.2.2.2.1, .int .i64 0, .int .i64 0, .int .i64 0, .int .i64 0, .int .i64 0, .slice none 0 0, .slice none 0 0] 34)).frozen? ⟨w.heap.size + 1 + 1, 3, none⟩ = false := by simp only [World.frozen?, t3]; simp
  have yf4 : (((w.alloc (.cells #[.int .i64 t.1, .int .i64 t.2.1, .int .i64 t.2.2.1, .int .i64 t.2.2.2.1, .int .i64 t.2.2.2.2.1.1, .int .i64 t.2.2.2.2.1.2.1, .int .i64 t.2.2.2.2.1.2.2.1, .int .i64 t.2.2.2.2.1.2.2.2.1, .int .i64 t.2.2.2.2.1.2.2.2.2, .slice A n c, .slice B p d] 27)).alloc (.cells #[.int .i64 0, .int .i64 0, .int .i64 0, .int .i64 0, .int .i64 0, .int .i64 0, .int .i64 0, .int .i64 0, .int .i64 0, .slice none 0 0, .slice none 0 0] 34)).alloc (.cells #[.int .i64 t.1, .int .i64 t.2.1, .int .i64 t.2.2.1, .int .i64 t.2.2.2.1, .int .i64 0, .int .i64 0, .int .i64 0, .int .i64 0, .int .i64 0, .slice none 0 0, .slice none 0 0] 34)).frozen? ⟨w.heap.size + 1 + 1, 4, none⟩ = false := by simp only [World.frozen?, t3]; simp
  have yf5 : (((w.alloc (.cells #[.int .i64 t.1, .int .i64 t.2.1, .int .i64 t.2.2.1, .int .i64 t.2.2.2.1, .int .i64 t.2.2.2.2.1.1, .int .i64 t.2.2.2.2.1.2.1, .int .i64 t.2.2.2.2.1.2.2.1, .int .i64 t.2.2.2.2.1.2.2.2.1, .int .i64 t.2.2.2.2.1.2.2.2.2, .slice A n c, .slice B p d] 27)).alloc (.cells #[.int .i64 0, .int .i64 0, .int .i64 0, .int .i64 0, .int .i64 0, .int .i64 0, .int .i64 0, .int .i64 0, .int .i64 0, .slice none 0 0, .slice none 0 0] 34)).alloc (.cells #[.int .i64 t.1, .int .i64 t.2.1, .int .i64 t.2.2.1, .int .i64 t.2.2.2.1, .int .i64 0, .int .i64 0, .int .i64 0, .int .i64 0, .int .i64 0, .slice none 0 0, .slice none 0 0] 34)).frozen? ⟨w.heap.size + 1 + 1, 5, none⟩ = false := by simp only [World.frozen?, t3]; simp
  have yf6 : (((w.alloc (.cells #[.int .i64 t.1, .int .i64 t.2.1, .int .i64 t.2.2.1, .int .i64 t.2.2.2.1, .int .i64 t.2.2.2.2.1.1, .int .i64 t.2.2.2.2.1.2.1, .int .i64 t.2.2.2.2.1.2.2.1, .int .i64 t.2.2.2.2.1.2.2.2.1, .int .i64 t.2.2.2.2.1.2.2.2.2, .slice A n c, .slice B p d] 27)).alloc (.cells #[.int .i64 0, .int .i64 0, .int .i64 0, .int .i64 0, .int .i64 0, .int .i64 0, .int .i64 0, .int .i64 0, .int .i64 0, .slice none 0 0, .slice none 0 0] 34)).alloc (.cells #[.int .i64 t.1, .int .i64 t.2.1, .int .i64 t.2.2.1, .int .i64 t.2.2.2.1, .int .i64 0, .int .i64 0, .int .i64 0, .int .i64 0, .int .i64 0, .slice none 0 0, .slice none 0 0] 34)).frozen? ⟨w.heap.size + 1 + 1, 6, none⟩ = false := by simp only [World.frozen?, t3]; simp
  have yf7 : (((w.alloc (.cells #[.int .i64 t.1, .int .i64 t.2.1, .int .i64 t.2.2.1, .int .i64 t.2.2.2.1, .int .i64 t.2.2.2.2.1.1, .int .i64 t.2.2.2.2.1.2.1, .int .i64 t.2.2.2.2.1.2.2.1, .int .i64 t.2.2.2.2.1.2.2.2.1, .int .i64 t.2.2.2.2.1.2.2.2.2, .slice A n c, .slice B p d] 27)).alloc (.cells #[.int .i64 0, .int .i64 0, .int .i64 0, .int .i64 0, .int .i64 0, .int .i64 0, .int .i64 0, .int .i64 0, .int .i64 0, .slice none 0 0, .slice none 0 0] 34)).alloc (.cells #[.int .i64 t.1, .int .i64 t.2.1, .int .i64 t.2.2.1, .int .i64 t.2.2.2.1, .int .i64 0, .int .i64 0, .int .i64 0, .int .i64 0, .int .i64 0, .slice none 0 0, .slice none 0 0] 34)).frozen? ⟨w.heap.size + 1 + 1, 7, none⟩ = false := by simp only [World.frozen?, t3]; simp
  have yf8 : (((w.alloc (.cells #[.int .i64 t.1, .int .i64 t.2.1, .int .i64 t.2.2.1, .int .i64 t.2.2.2.1, .int .i64 t.2.2.2.2.1.1, .int .i64 t.2.2.2.2.1.2.1, .int .i64 t.2.2.2.2.1.2.2.1, .int .i64 t.2.2.2.2.1.2.2.2.1, .int .i64 t.2.2.2.2.1.2.2.2.2, .slice A n c, .slice B p d] 27)).alloc (.cells #[.int .i64 0, .int .i64 0, .int .i64 0, .int .i64 0, .int .i64 0, .int .i64 0, .int .i64 0, .int .i64 0, .int .i64 0, .slice none 0 0, .slice none 0 0] 34)).alloc (.cells #[.int .i64 t.1, .int .i64 t.2.1, .int .i64 t.2.2.1, .int .i64 t.2.2.2.1, .int .i64 0, .int .i64 0, .int .i64 0, .int .i64 0, .int .i64 0, .slice none 0 0, .slice none 0 0] 34)).frozen? ⟨w.heap.size + 1 + 1, 8, none⟩ = false := by simp only [World.frozen?, t3]; simp
  have yf9 : (((w.alloc (.cells #[.int .i64 t.1, .int .i64 t.2.1, .int .i64 t.2.2.1, .int .i64 t.2.2.2.1, .int .i64 t.2.2.2.2.1.1, .int .i64 t.2.2.2.2.1.2.1, .int .i64 t.2.2.2.2.1.2.2.1, .int .i64 t.2.2.2.2.1.2.2.2.1, .int .i64 t.2.2.2.2.1.2.2.2.2, .slice A n c, .slice B p d] 27)).alloc (.cells #[.int .i64 0, .int .i64 0, .int .i64 0, .int .i64 0, .int .i64 0, .int .i64 0, .int .i64 0, .int .i64 0, .int .i64 0, .slice none 0 0, .slice none 0 0] 34)).alloc (.cells #[.int .i64 t.1, .int .i64 t.2.1, .int .i64 t.2.2.1, .int .i64 t.2.2.2.1, .int .i64 0, .int .i64 0, .int .i64 0, .int .i64 0, .int .i64 0, .slice none 0 0, .slice none 0 0] 34)).frozen? ⟨w.heap.size + 1 + 1, 9, none⟩ = false := by simp only [World.frozen?, t3]; simp
  have yf10 : (((w.alloc (.cells #[.int .i64 t.1, .int .i64 t.2.1, .int .i64 t.2.2.1, .int .i64 t.2.2.2.1, .int .i64 t.2.2.2.2.1.1, .int .i64 t.2.2.2.2.1.2.1, .int .i64 t.2.2.2.2.1.2.2.1, .int .i64 t.2.2.2.2.1.2.2.2.1, .int .i64 t.2.2.2.2.1.2.2.2.2, .slice A n c, .slice B p d] 27)).alloc (.cells #[.int .i64 0, .int .i64 0, .int .i64 0, .int .i64 0, .int .i64 0, .int .i64 0, .int .i64 0, .int .i64 0, .int .i64 0, .slice none 0 0, .slice none 0 0] 34)).alloc (.cells #[.int .i64 t.1, .int .i64 t.2.1, .int .i64 t.2.2.1, .int .i64 t.2.2.2.1, .int .i64 0, .int .i64 0, .int .i64 0, .int .i64 0, .int .i64 0, .slice none 0 0, .slice none 0 0] 34)).frozen? ⟨w.heap.size + 1 + 1, 10, none⟩ = false := by simp only [World.frozen?, t3]; simp
  have hl : w.heap.size + 1 + 1 < (((w.alloc (.cells #[.int .i64 t.1, .int .i64 t.2.1, .int .i64 t.2.2.1, .int .i64 t.2.2.2.1, .int .i64 t.2.2.2.2.1.1, .int .i64 t.2.2.2.2.1.2.1, .int .i64 t.2.2.2.2.1.2.2.1, .int .i64 t.2.2.2.2.1.2.2.2.1, .int .i64 t.2.2.2.2.1.2.2.2.2, .slice A n c, .slice B p d] 27)).alloc (.cells #[.int .i64 0, .int .i64 0, .int .i64 0, .int .i64 0, .int .i64 0, .int .i64 0, .int .i64 0, .int .i64 0, .int .i64 0, .slice none 0 0, .slice none 0 0] 34)).alloc (.cells #[.int .i64 t.1, .int .i64 t.2.1, .int .i64 t.2.2.1, .int .i64 t.2.2.2.1, .int .i64 0, .int .i64 0, .int .i64 0, .int .i64 0, .int .i64 0, .slice none 0 0, .slice none 0 0] 34)).heap.size := by rw [t4]; omega
  clear t1 t2 t3 t4
  have k0 := hide (fun W (h : Below w.heap.size w W) => toClaimS_c (h0.below (flat_kept _) h hhi) hz0 (Nat.le_trans hhi h.size))
  have k1 := hide (fun W (h : Below w.heap.size w W) => toVoteS_c (h1.below vote_kept h hhi) hz1 (Nat.le_trans hhi h.size))
  go_enter Tryd.func6, Tryd.ntmps6
  go_wp2_with fail
  generalize (((w.alloc (.cells #[.int .i64 t.1, .int .i64 t.2.1, .int .i64 t.2.2.1, .int .i64 t.2.2.2.1, .int .i64 t.2.2.2.2.1.1, .int .i64 t.2.2.2.2.1.2.1, .int .i64 t.2.2.2.2.1.2.2.1, .int .i64 t.2.2.2.2.1.2.2.2.1, .int .i64 t.2.2.2.2.1.2.2.2.2, .slice A n c, .slice B p d] 27)).alloc (.cells #[.int .i64 0, .int .i64 0, .int .i64 0, .int .i64 0, .int .i64 0, .int .i64 0, .int .i64 0, .int .i64 0, .int .i64 0, .slice none 0 0, .slice none 0 0] 34)).alloc (.cells #[.int .i64 t.1, .int .i64 t.2.1, .int .i64 t.2.2.1, .int .i64 t.2.2.2.1, .int .i64 0, .int .i64 0, .int .i64 0, .int .i64 0, .int .i64 0, .slice none 0 0, .slice none 0 0] 34)) = v0 at *
  refine (toReq_c t.2.2.2.2.1 v0).mono ?_
  rintro e u0 ⟨rfl, hb0⟩
  have hB := hB.trans (hb0.mono hB.size)
  have hzhb0 := hb0.size
  have x9 := keepc hb0 x9
  have x10 := keepc hb0 x10
  have z0 := keepc hb0 z0
  have zf0 := keepf hb0 (by omega) zf0
  have z1 := keepc hb0 z1
  have zf1 := keepf hb0 (by omega) zf1
  have z2 := keepc hb0 z2
  have zf2 := keepf hb0 (by omega) zf2
  have z3 := keepc hb0 z3
  have zf3 := keepf hb0 (by omega) zf3
  have z4 := keepc hb0 z4
  have zf4 := keepf hb0 (by omega) zf4
  have z5 := keepc hb0 z5
  have zf5 := keepf hb0 (by omega) zf5
  have z6 := keepc hb0 z6
  have zf6 := keepf hb0 (by omega) zf6
  have z7 := keepc hb0 z7
  have zf7 := keepf hb0 (by omega) zf7
  have z8 := keepc hb0 z8
  have zf8 := keepf hb0 (by omega) zf8
  have z9 := keepc hb0 z9
  have zf9 := keepf hb0 (by omega) zf9
  have z10 := keepc hb0 z10
  have zf10 := keepf hb0 (by omega) zf10
  have y0 := keepc hb0 y0
  have yf0 := keepf hb0 (by omega) yf0
  have y1 := keepc hb0 y1
  have yf1 := keepf hb0 (by omega) yf1
  have y2 := keepc hb0 y2
  have yf2 := keepf hb0 (by omega) yf2
  have y3 := keepc hb0 y3
  have yf3 := keepf hb0 (by omega) yf3
  have y4 := keepc hb0 y4
  have yf4 := keepf hb0 (by omega) yf4
  have y5 := keepc hb0 y5
  have yf5 := keepf hb0 (by omega) yf5
  have y6 := keepc hb0 y6
  have yf6 := keepf hb0 (by omega) yf6
  have y7 := keepc hb0 y7
  have yf7 := keepf hb0 (by omega) yf7
  have y8 := keepc hb0 y8
  have yf8 := keepf hb0 (by omega) yf8
  have y9 := keepc hb0 y9
  have yf9 := keepf hb0 (by omega) yf9
  have y10 := keepc hb0 y10
  have yf10 := keepf hb0 (by omega) yf10
  have hl := Nat.lt_of_lt_of_le hl hb0.size
  have hA : Above (w.heap.size + 1 + 1 + 1) u0 (((((u0.setCell ⟨w.heap.size + 1 + 1, 4, none⟩ (.int .i64 t.2.2.2.2.1.1)).setCell ⟨w.heap.size + 1 + 1, 5, none⟩ (.int .i64 t.2.2.2.2.1.2.1)).setCell ⟨w.heap.size + 1 + 1, 6, none⟩ (.int .i64 t.2.2.2.2.1.2.2.1)).setCell ⟨w.heap.size + 1 + 1, 7, none⟩ (.int .i64 t.2.2.2.2.1.2.2.2.1)).setCell ⟨w.heap.size + 1 + 1, 8, none⟩ (.int .i64 t.2.2.2.2.1.2.2.2.2)) := by repeat (first | (with_reducible exact Above.refl _ _) | (with_reducible refine Above.drew ?_) | ((with_reducible refine Above.setCell ?_ ?_ _); rotate_left; (focus (first | (simp; done) | (simp; omega)))))
  have hB : Below w.heap.size w (((((u0.setCell ⟨w.heap.size + 1 + 1, 4, none⟩ (.int .i64 t.2.2.2.2.1.1)).setCell ⟨w.heap.size + 1 + 1, 5, none⟩ (.int .i64 t.2.2.2.2.1.2.1)).setCell ⟨w.heap.size + 1 + 1, 6, none⟩ (.int .i64 t.2.2.2.2.1.2.2.1)).setCell ⟨w.heap.size + 1 + 1, 7, none⟩ (.int .i64 t.2.2.2.2.1.2.2.2.1)).setCell ⟨w.heap.size + 1 + 1, 8, none⟩ (.int .i64 t.2.2.2.2.1.2.2.2.2)) := by repeat (first | (with_reducible exact hB) | (with_reducible refine Below.drew ?_) | ((with_reducible refine Below.setCell ?_ ?_ _); rotate_left; (focus (first | (simp; done) | (simp; omega)))))
  have x9 : (((((u0.setCell ⟨w.heap.size + 1 + 1, 4, none⟩ (.int .i64 t.2.2.2.2.1.1)).setCell ⟨w.heap.size + 1 + 1, 5, none⟩ (.int .i64 t.2.2.2.2.1.2.1)).setCell ⟨w.heap.size + 1 + 1, 6, none⟩ (.int .i64 t.2.2.2.2.1.2.2.1)).setCell ⟨w.heap.size + 1 + 1, 7, none⟩ (.int .i64 t.2.2.2.2.1.2.2.2.1)).setCell ⟨w.heap.size + 1 + 1, 8, none⟩ (.int .i64 t.2.2.2.2.1.2.2.2.2)).cell? ⟨w.heap.size, 9, none⟩ = some (.slice A n c) := by go_simp
  have x10 : (((((u0.setCell ⟨w.heap.size + 1 + 1, 4, none⟩ (.int .i64 t.2.2.2.2.1.1)).setCell ⟨w.heap.size + 1 + 1, 5, none⟩ (.int .i64 t.2.2.2.2.1.2.1)).setCell ⟨w.heap.size + 1 + 1, 6, none⟩ (.int .i64 t.2.2.2.2.1.2.2.1)).setCell ⟨w.heap.size + 1 + 1, 7, none⟩ (.int .i64 t.2.2.2.2.1.2.2.2.1)).setCell ⟨w.heap.size + 1 + 1, 8, none⟩ (.int .i64 t.2.2.2.2.1.2.2.2.2)).cell? ⟨w.heap.size, 10, none⟩ = some (.slice B p d) := by go_simp
  have z0 : (((((u0.setCell ⟨w.heap.size + 1 + 1, 4, none⟩ (.int .i64 t.2.2.2.2.1.1)).setCell ⟨w.heap.size + 1 + 1, 5, none⟩ (.int .i64 t.2.2.2.2.1.2.1)).setCell ⟨w.heap.size + 1 + 1, 6, none⟩ (.int .i64 t.2.2.2.2.1.2.2.1)).setCell ⟨w.heap.size + 1 + 1, 7, none⟩ (.int .i64 t.2.2.2.2.1.2.2.2.1)).setCell ⟨w.heap.size + 1 + 1, 8, none⟩ (.int .i64 t.2.2.2.2.1.2.2.2.2)).cell? ⟨w.heap.size + 1, 0, none⟩ = some (.int .i64 0) := by go_simp
  have zf0 : (((((u0.setCell ⟨w.heap.size + 1 + 1, 4, none⟩ (.int .i64 t.2.2.2.2.1.1)).setCell ⟨w.heap.size + 1 + 1, 5, none⟩ (.int .i64 t.2.2.2.2.1.2.1)).setCell ⟨w.heap.size + 1 + 1, 6, none⟩ (.int .i64 t.2.2.2.2.1.2.2.1)).setCell ⟨w.heap.size + 1 + 1, 7, none⟩ (.int .i64 t.2.2.2.2.1.2.2.2.1)).setCell ⟨w.heap.size + 1 + 1, 8, none⟩ (.int .i64 t.2.2.2.2.1.2.2.2.2)).frozen? ⟨w.heap.size + 1, 0, none⟩ = false := by go_simp
  have z1 : (((((u0.setCell ⟨w.heap.size + 1 + 1, 4, none⟩ (.int .i64 t.2.2.2.2.1.1)).setCell ⟨w.heap.size + 1 + 1, 5, none⟩ (.int .i64 t.2.2.2.2.1.2.1)).setCell ⟨w.heap.size + 1 + 1, 6, none⟩ (.int .i64 t.2.2.2.2.1.2.2.1)).setCell ⟨w.heap.size + 1 + 1, 7, none⟩ (.int .i64 t.2.2.2.2.1.2.2.2.1)).setCell ⟨w.heap.size + 1 + 1, 8, none⟩ (.int .i64 t.2.2.2.2.1.2.2.2.2)).cell? ⟨w.heap.size + 1, 1, none⟩ = some (.int .i64 0) := by go_simp
  have zf1 : (((((u0.setCell ⟨w.heap.size + 1 + 1, 4, none⟩ (.int .i64 t.2.2.2.2.1.1)).setCell ⟨w.heap.size + 1 + 1, 5, none⟩ (.int .i64 t.2.2.2.2.1.2.1)).setCell ⟨w.heap.size + 1 + 1, 6, none⟩ (.int .i64 t.2.2.2.2.1.2.2.1)).setCell ⟨w.heap.size + 1 + 1, 7, none⟩ (.int .i64 t.2.2.2.2.1.2.2.2.1)).setCell ⟨w.heap.size + 1 + 1, 8, none⟩ (.int .i64 t.2.2.2.2.1.2.2.2.2)).frozen? ⟨w.heap.size + 1, 1, none⟩ = false := by go_simp
  have z2 : (((((u0.setCell ⟨w.heap.size + 1 + 1, 4, none⟩ (.int .i64 t.2.2.2.2.1.1)).setCell ⟨w.heap.size + 1 + 1, 5, none⟩ (.int .i64 t.2.2.2.2.1.2.1)).setCell ⟨w.heap.size + 1 + 1, 6, none⟩ (.int .i64 t.2.2.2.2.1.2.2.1)).setCell ⟨w.heap.size + 1 + 1, 7, none⟩ (.int .i64 t.2.2.2.2.1.2.2.2.1)).setCell ⟨w.heap.size + 1 + 1, 8, none⟩ (.int .i64 t.2.2.2.2.1.2.2.2.2)).cell? ⟨w.heap.size + 1, 2, none⟩ = some (.int .i64 0) := by go_simp
  have zf2 : (((((u0.setCell ⟨w.heap.size + 1 + 1, 4, none⟩ (.int .i64 t.2.2.2.2.1.1)).setCell ⟨w.heap.size + 1 + 1, 5, none⟩ (.int .i64 t.2.2.2.2.1.2.1)).setCell ⟨w.heap.size + 1 + 1, 6, none⟩ (.int .i64 t.2.2.2.2.1.2.2.1)).setCell ⟨w.heap.size + 1 + 1, 7, none⟩ (.int .i64 t.2.2.2.2.1.2.2.2.1)).setCell ⟨w.heap.size + 1 + 1, 8, none⟩ (.int .i64 t.2.2.2.2.1.2.2.2.2)).frozen? ⟨w.heap.size + 1, 2, none⟩ = false := by go_simp
  have z3 : (((((u0.setCell ⟨w.heap.size + 1 + 1, 4, none⟩ (.int .i64 t.2.2.2.2.1.1)).setCell ⟨w.heap.size + 1 + 1, 5, none⟩ (.int .i64 t.2.2.2.2.1.2.1)).setCell ⟨w.heap.size + 1 + 1, 6, none⟩ (.int .i64 t.2.2.2.2.1.2.2.1)).setCell ⟨w.heap.size + 1 + 1, 7, none⟩ (.int .i64 t.2.2.2.2.1.2.2.2.1)).setCell ⟨w.heap.size + 1 + 1, 8, none⟩ (.int .i64 t.2.2.2.2.1.2.2.2.2)).cell? ⟨w.heap.size + 1, 3, none⟩ = some (.int .i64 0) := by go_simp
  have zf3 : (((((u0.setCell ⟨w.heap.size + 1 + 1, 4, none⟩ (.int .i64 t.2.2.2.2.1.1)).setCell ⟨w.heap.size + 1 + 1, 5, none⟩ (.int .i64 t.2.2.2.2.1.2.1)).setCell ⟨w.heap.size + 1 + 1, 6, none⟩ (.int .i64 t.2.2.2.2.1.2.2.1)).setCell ⟨w.heap.size + 1 + 1, 7, none⟩ (.int .i64 t.2.2.2.2.1.2.2.2.1)).setCell ⟨w.heap.size + 1 + 1, 8, none⟩ (.int .i64 t.2.2.2.2.1.2.2.2.2)).frozen? ⟨w.heap.size + 1, 3, none⟩ = false := by go_simp
  have z4 : (((((u0.setCell ⟨w.heap.size + 1 + 1, 4, none⟩ (.int .i64 t.2.2.2.2.1.1)).setCell ⟨w.heap.size + 1 + 1, 5, none⟩ (.int .i64 t.2.2.2.2.1.2.1)).setCell ⟨w.heap.size + 1 + 1, 6, none⟩ (.int .i64 t.2.2.2.2.1.2.2.1)).setCell ⟨w.heap.size + 1 + 1, 7, none⟩ (.int .i64 t.2.2.2.2.1.2.2.2.1)).setCell ⟨w.heap.size + 1 + 1, 8, none⟩ (.int .i64 t.2.2.2.2.1.2.2.2.2)).cell? ⟨w.heap.size + 1, 4, none⟩ = some (.int .i64 0) := by go_simp
  have zf4 : (((((u0.setCell ⟨w.heap.size + 1 + 1, 4, none⟩ (.int .i64 t.2.2.2.2.1.1)).setCell ⟨w.heap.size + 1 + 1, 5, none⟩ (.int .i64 t.2.2.2.2.1.2.1)).setCell ⟨w.heap.size + 1 + 1, 6, none⟩ (.int .i64 t.2.2.2.2.1.2.2.1)).setCell ⟨w.heap.size + 1 + 1, 7, none⟩ (.int .i64 t.2.2.2.2.1.2.2.2.1)).setCell ⟨w.heap.size + 1 + 1, 8, none⟩ (.int .i64 t.2.2.2.2.1.2.2.2.2)).frozen? ⟨w.heap.size + 1, 4, none⟩ = false := by go_simp
  have z5 : (((((u0.setCell ⟨w.heap.size + 1 + 1, 4, none⟩ (.int .i64 t.2.2.2.2.1.1)).setCell ⟨w.heap.size + 1 + 1, 5, none⟩ (.int .i64 t.2.2.2.2.1.2.1)).setCell ⟨w.heap.size + 1 + 1, 6, none⟩ (.int .i64 t.2.2.2.2.1.2.2.1)).setCell ⟨w.heap.size + 1 + 1, 7, none⟩ (.int .i64 t.2.2.2.2.1.2.2.2.1)).setCell ⟨w.heap.size + 1 + 1, 8, none⟩ (.int .i64 t.2.2.2.2.1.2.2.2.2)).cell? ⟨w.heap.size + 1, 5, none⟩ = some (.int .i64 0) := by go_simp
  have zf5 : (((((u0.setCell ⟨w.heap.size + 1 + 1, 4, none⟩ (.int .i64 t.2.2.2.2.1.1)).setCell ⟨w.heap.size + 1 + 1, 5, none⟩ (.int .i64 t.2.2.2.2.1.2.1)).setCell ⟨w.heap.size + 1 + 1, 6, none⟩ (.int .i64 t.2.2.2.2.1.2.2.1)).setCell ⟨w.heap.size + 1 + 1, 7, none⟩ (.int .i64 t.2.2.2.2.1.2.2.2.1)).setCell ⟨w.heap.size + 1 + 1, 8, none⟩ (.int .i64 t.2.2.2.2.1.2.2.2.2)).frozen? ⟨w.heap.size + 1, 5, none⟩ = false := by go_simp
  have z6 : (((((u0.setCell ⟨w.heap.size + 1 + 1, 4, none⟩ (.int .i64 t.2.2.2.2.1.1)).setCell ⟨w.heap.size + 1 + 1, 5, none⟩ (.int .i64 t.2.2.2.2.1.2.1)).setCell ⟨w.heap.size + 1 + 1, 6, none⟩ (.int .i64 t.2.2.2.2.1.2.2.1)).setCell ⟨w.heap.size + 1 + 1, 7, none⟩ (.int .i64 t.2.2.2.2.1.2.2.2.1)).setCell ⟨w.heap.size + 1 + 1, 8, none⟩ (.int .i64 t.2.2.2.2.1.2.2.2.2)).cell? ⟨w.heap.size + 1, 6, none⟩ = some (.int .i64 0) := by go_simp
  have zf6 : (((((u0.setCell ⟨w.heap.size + 1 + 1, 4, none⟩ (.int .i64 t.2.2.2.2.1.1)).setCell ⟨w.heap.size + 1 + 1, 5, none⟩ (.int .i64 t.2.2.2.2.1.2.1)).setCell ⟨w.heap.size + 1 + 1, 6, none⟩ (.int .i64 t.2.2.2.2.1.2.2.1)).setCell ⟨w.heap.size + 1 + 1, 7, none⟩ (.int .i64 t.2.2.2.2.1.2.2.2.1)).setCell ⟨w.heap.size + 1 + 1, 8, none⟩ (.int .i64 t.2.2.2.2.1.2.2.2.2)).frozen? ⟨w.heap.size + 1, 6, none⟩ = false := by go_simp
  have z7 : (((((u0.setCell ⟨w.heap.size + 1 + 1, 4, none⟩ (.int .i64 t.2.2.2.2.1.1)).setCell ⟨w.heap.size + 1 + 1, 5, none⟩ (.int .i64 t.2.2.2.2.1.2.1)).setCell ⟨w.heap.size + 1 + 1, 6, none⟩ (.int .i64 t.2.2.2.2.1.2.2.1)).setCell ⟨w.heap.size + 1 + 1, 7, none⟩ (.int .i64 t.2.2.2.2.1.2.2.2.1)).setCell ⟨w.heap.size + 1 + 1, 8, none⟩ (.int .i64 t.2.2.2.2.1.2.2.2.2)).cell? ⟨w.heap.size + 1, 7, none⟩ = some (.int .i64 0) := by go_simp
  have zf7 : (((((u0.setCell ⟨w.heap.size + 1 + 1, 4, none⟩ (.int .i64 t.2.2.2.2.1.1)).setCell ⟨w.heap.size + 1 + 1, 5, none⟩ (.int .i64 t.2.2.2.2.1.2.1)).setCell ⟨w.heap.size + 1 + 1, 6, none⟩ (.int .i64 t.2.2.2.2.1.2.2.1)).setCell ⟨w.heap.size + 1 + 1, 7, none⟩ (.int .i64 t.2.2.2.2.1.2.2.2.1)).setCell ⟨w.heap.size + 1 + 1, 8, none⟩ (.int .i64 t.2.2.2.2.1.2.2.2.2)).frozen? ⟨w.heap.size + 1, 7, none⟩ = false := by go_simp
  have z8 : (((((u0.setCell ⟨w.heap.size + 1 + 1, 4, none⟩ (.int .i64 t.2.2.2.2.1.1)).setCell ⟨w.heap.size + 1 + 1, 5, none⟩ (.int .i64 t.2.2.2.2.1.2.1)).setCell ⟨w.heap.size + 1 + 1, 6, none⟩ (.int .i64 t.2.2.2.2.1.2.2.1)).setCell ⟨w.heap.size + 1 + 1, 7, none⟩ (.int .i64 t.2.2.2.2.1.2.2.2.1)).setCell ⟨w.heap.size + 1 + 1, 8, none⟩ (.int .i64 t.2.2.2.2.1.2.2.2.2)).cell? ⟨w.heap.size + 1, 8, none⟩ = some (.int .i64 0) := by go_simp
  have zf8 : (((((u0.setCell ⟨w.heap.size + 1 + 1, 4, none⟩ (.int .i64 t.2.2.2.2.1.1)).setCell ⟨w.heap.size + 1 + 1, 5, none⟩ (.int .i64 t.2.2.2.2.1.2.1)).setCell ⟨w.heap.size + 1 + 1, 6, none⟩ (.int .i64 t.2.2.2.2.1.2.2.1)).setCell ⟨w.heap.size + 1 + 1, 7, none⟩ (.int .i64 t.2.2.2.2.1.2.2.2.1)).setCell ⟨w.heap.size + 1 + 1, 8, none⟩ (.int .i64 t.2.2.2.2.1.2.2.2.2)).frozen? ⟨w.heap.size + 1, 8, none⟩ = false := by go_simp
  have z9 : (((((u0.setCell ⟨w.heap.size + 1 + 1, 4, none⟩ (.int .i64 t.2.2.2.2.1.1)).setCell ⟨w.heap.size + 1 + 1, 5, none⟩ (.int .i64 t.2.2.2.2.1.2.1)).setCell ⟨w.heap.size + 1 + 1, 6, none⟩ (.int .i64 t.2.2.2.2.1.2.2.1)).setCell ⟨w.heap.size + 1 + 1, 7, none⟩ (.int .i64 t.2.2.2.2.1.2.2.2.1)).setCell ⟨w.heap.size + 1 + 1, 8, none⟩ (.int .i64 t.2.2.2.2.1.2.2.2.2)).cell? ⟨w.heap.size + 1, 9, none⟩ = some (.slice none 0 0) := by go_simp
  have zf9 : (((((u0.setCell ⟨w.heap.size + 1 + 1, 4, none⟩ (.int .i64 t.2.2.2.2.1.1)).setCell ⟨w.heap.size + 1 + 1, 5, none⟩ (.int .i64 t.2.2.2.2.1.2.1)).setCell ⟨w.heap.size + 1 + 1, 6, none⟩ (.int .i64 t.2.2.2.2.1.2.2.1)).setCell ⟨w.heap.size + 1 + 1, 7, none⟩ (.int .i64 t.2.2.2.2.1.2.2.2.1)).setCell ⟨w.heap.size + 1 + 1, 8, none⟩ (.int .i64 t.2.2.2.2.1.2.2.2.2)).frozen? ⟨w.heap.size + 1, 9, none⟩ = false := by go_simp
  have z10 : (((((u0.setCell ⟨w.heap.size + 1 + 1, 4, none⟩ (.int .i64 t.2.2.2.2.1.1)).setCell ⟨w.heap.size + 1 + 1, 5, none⟩ (.int .i64 t.2.2.2.2.1.2.1)).setCell ⟨w.heap.size + 1 + 1, 6, none⟩ (.int .i64 t.2.2.2.2.1.2.2.1)).setCell ⟨w.heap.size + 1 + 1, 7, none⟩ (.int .i64 t.2.2.2.2.1.2.2.2.1)).setCell ⟨w.heap.size + 1 + 1, 8, none⟩ (.int .i64 t.2.2.2.2.1.2.2.2.2)).cell? ⟨w.heap.size + 1, 10, none⟩ = some (.slice none 0 0) := by go_simp
  have zf10 : (((((u0.setCell ⟨w.heap.size + 1 + 1, 4, none⟩ (.int .i64 t.2.2.2.2.1.1)).setCell ⟨w.heap.size + 1 + 1, 5, none⟩ (.int .i64 t.2.2.2.2.1.2.1)).setCell ⟨w.heap.size + 1 + 1, 6, none⟩ (.int .i64 t.2.2.2.2.1.2.2.1)).setCell ⟨w.heap.size + 1 + 1, 7, none⟩ (.int .i64 t.2.2.2.2.1.2.2.2.1)).setCell ⟨w.heap.size + 1 + 1, 8, none⟩ (.int .i64 t.2.2.2.2.1.2.2.2.2)).frozen? ⟨w.heap.size + 1, 10, none⟩ = false := by go_simp
  have y0 : (((((u0.setCell ⟨w.heap.size + 1 + 1, 4, none⟩ (.int .i64 t.2.2.2.2.1.1)).setCell ⟨w.heap.size + 1 + 1, 5, none⟩ (.int .i64 t.2.2.2.2.1.2.1)).setCell ⟨w.heap.size + 1 + 1, 6, none⟩ (.int .i64 t.2.2.2.2.1.2.2.1)).setCell ⟨w.heap.size + 1 + 1, 7, none⟩ (.int .i64 t.2.2.2.2.1.2.2.2.1)).setCell ⟨w.heap.size + 1 + 1, 8, none⟩ (.int .i64 t.2.2.2.2.1.2.2.2.2)).cell? ⟨w.heap.size + 1 + 1, 0, none⟩ = some (.int .i64 t.1) := by go_simp
  have yf0 : (((((u0.setCell ⟨w.heap.size + 1 + 1, 4, none⟩ (.int .i64 t.2.2.2.2.1.1)).setCell ⟨w.heap.size + 1 + 1, 5, none⟩ (.int .i64 t.2.2.2.2.1.2.1)).setCell ⟨w.heap.size + 1 + 1, 6, none⟩ (.int .i64 t.2.2.2.2.1.2.2.1)).setCell ⟨w.heap.size + 1 + 1, 7, none⟩ (.int .i64 t.2.2.2.2.1.2.2.2.1)).setCell ⟨w.heap.size + 1 + 1, 8, none⟩ (.int .i64 t.2.2.2.2.1.2.2.2.2)).frozen? ⟨w.heap.size + 1 + 1, 0, none⟩ = false := by go_simp
  have y1 : (((((u0.setCell ⟨w.heap.size + 1 + 1, 4, none⟩ (.int .i64 t.2.2.2.2.1.1)).setCell ⟨w.heap.size + 1 + 1, 5, none⟩ (.int .i64 t.2.2.2.2.1.2.1)).setCell ⟨w.heap.size + 1 + 1, 6, none⟩ (.int .i64 t.2.2.2.2.1.2.2.1)).setCell ⟨w.heap.size + 1 + 1, 7, none⟩ (.int .i64 t.2.2.2.2.1.2.2.2.1)).setCell ⟨w.heap.size + 1 + 1, 8, none⟩ (.int .i64 t.2.2.2.2.1.2.2.2.2)).cell? ⟨w.heap.size + 1 + 1, 1, none⟩ = some (.int .i64 t.2.1) := by go_simp
  have yf1 : (((((u0.setCell ⟨w.heap.size + 1 + 1, 4, none⟩ (.int .i64 t.2.2.2.2.1.1)).setCell ⟨w.heap.size + 1 + 1, 5, none⟩ (.int .i64 t.2.2.2.2.1.2.1)).setCell ⟨w.heap.size + 1 + 1, 6, none⟩ (.int .i64 t.2.2.2.2.1.2.2.1)).setCell ⟨w.heap.size + 1 + 1, 7, none⟩ (.int .i64 t.2.2.2.2.1.2.2.2.1)).setCell ⟨w.heap.size + 1 + 1, 8, none⟩ (.int .i64 t.2.2.2.2.1.2.2.2.2)).frozen? ⟨w.heap.size + 1 + 1, 1, none⟩ = false := by go_simp
  have y2 : (((((u0.setCell ⟨w.heap.size + 1 + 1, 4, none⟩ (.int .i64 t.2.2.2.2.1.1)).setCell ⟨w.heap.size + 1 + 1, 5, none⟩ (.int .i64 t.2.2.2.2.1.2.1)).setCell ⟨w.heap.size + 1 + 1, 6, none⟩ (.int .i64 t.2.2.2.2.1.2.2.1)).setCell ⟨w.heap.size + 1 + 1, 7, none⟩ (.int .i64 t.2.2.2.2.1.2.2.2.1)).setCell ⟨w.heap.size + 1 + 1, 8, none⟩ (.int .i64 t.2.2.2.2.1.2.2.2.2)).cell? ⟨w.heap.size + 1 + 1, 2, none⟩ = some (.int .i64 t.2.2.1) := by go_simp
  have yf2 : (((((u0.setCell ⟨w.heap.size + 1 + 1, 4, none⟩ (.int .i64 t.2.2.2.2.1.1)).setCell ⟨w.heap.size + 1 + 1, 5, none⟩ (.int .i64 t.2.2.2.2.1.2.1)).setCell ⟨w.heap.size + 1 + 1, 6, none⟩ (.int .i64 t.2.2.2.2.1.2.2.1)).setCell ⟨w.heap.size + 1 + 1, 7, none⟩ (.int .i64 t.2.2.2.2.1.2.2.2.1)).setCell ⟨w.heap.size + 1 + 1, 8, none⟩ (.int .i64 t.2.2.2.2.1.2.2.2.2)).frozen? ⟨w.heap.size + 1 + 1, 2, none⟩ = false := by go_simp
  have y3 : (((((u0.setCell ⟨w.heap.size + 1 + 1, 4, none⟩ (.int .i64 t.2.2.2.2.1.1)).setCell ⟨w.heap.size + 1 + 1, 5, none⟩ (.int .i64 t.2.2.2.2.1.2.1)).setCell ⟨w.heap.size + 1 + 1, 6, none⟩ (.int .i64 t.2.2.2.2.1.2.2.1)).setCell ⟨w.heap.size + 1 + 1, 7, none⟩ (.int .i64 t.2.2.2.2.1.2.2.2.1)).setCell ⟨w.heap.size + 1 + 1, 8, none⟩ (.int .i64 t.2.2.2.2.1.2.2.2.2)).cell? ⟨w.heap.size + 1 + 1, 3, none⟩ = some (.int .i64 t.2.2.2.1) := by go_simp
  have yf3 : (((((u0.setCell ⟨w.heap.size + 1 + 1, 4, none⟩ (.int .i64 t.2.2.2.2.1.1)).setCell ⟨w.heap.size + 1 + 1, 5, none⟩ (.int .i64 t.2.2.2.2.1.2.1)).setCell ⟨w.heap.size + 1 + 1, 6, none⟩ (.int .i64 t.2.2.2.2.1.2.2.1)).setCell ⟨w.heap.size + 1 + 1, 7, none⟩ (.int .i64 t.2.2.2.2.1.2.2.2.1)).setCell ⟨w.heap.size + 1 + 1, 8, none⟩ (.int .i64 t.2.2.2.2.1.2.2.2.2)).frozen? ⟨w.heap.size + 1 + 1, 3, none⟩ = false := by go_simp
  have y4 : (((((u0.setCell ⟨w.heap.size + 1 + 1, 4, none⟩ (.int .i64 t.2.2.2.2.1.1)).setCell ⟨w.heap.size + 1 + 1, 5, none⟩ (.int .i64 t.2.2.2.2.1.2.1)).setCell ⟨w.heap.size + 1 + 1, 6, none⟩ (.int .i64 t.2.2.2.2.1.2.2.1)).setCell ⟨w.heap.size + 1 + 1, 7, none⟩ (.int .i64 t.2.2.2.2.1.2.2.2.1)).setCell ⟨w.heap.size + 1 + 1, 8, none⟩ (.int .i64 t.2.2.2.2.1.2.2.2.2)).cell? ⟨w.heap.size + 1 + 1, 4, none⟩ = some (.int .i64 t.2.2.2.2.1.1) := by go_simp
  have yf4 : (((((u0.setCell ⟨w.heap.size + 1 + 1, 4, none⟩ (.int .i64 t.2.2.2.2.1.1)).setCell ⟨w.heap.size + 1 + 1, 5, none⟩ (.int .i64 t.2.2.2.2.1.2.1)).setCell ⟨w.heap.size + 1 + 1, 6, none⟩ (.int .i64 t.2.2.2.2.1.2.2.1)).setCell ⟨w.heap.size + 1 + 1, 7, none⟩ (.int .i64 t.2.2.2.2.1.2.2.2.1)).setCell ⟨w.heap.size + 1 + 1, 8, none⟩ (.int .i64 t.2.2.2.2.1.2.2.2.2)).frozen? ⟨w.heap.size + 1 + 1, 4, none⟩ = false := by go_simp
  have y5 : (((((u0.setCell ⟨w.heap.size + 1 + 1, 4, none⟩ (.int .i64 t.2.2.2.2.1.1)).setCell ⟨w.heap.size + 1 + 1, 5, none⟩ (.int .i64 t.2.2.2.2.1.2.1)).setCell ⟨w.heap.size + 1 + 1, 6, none⟩ (.int .i64 t.2.2.2.2.1.2.2.1)).setCell ⟨w.heap.size + 1 + 1, 7, none⟩ (.int .i64 t.2.2.2.2.1.2.2.2.1)).setCell ⟨w.heap.size + 1 + 1, 8, none⟩ (.int .i64 t.2.2.2.2.1.2.2.2.2)).cell? ⟨w.heap.size + 1 + 1, 5, none⟩ = some (.int .i64 t.2.2.2.2.1.2.1) := by go_simp
  have yf5 : (((((u0.setCell ⟨w.heap.size + 1 + 1, 4, none⟩ (.int .i64 t.2.2.2.2.1.1)).setCell ⟨w.heap.size + 1 + 1, 5, none⟩ (.int .i64 t.2.2.2.2.1.2.1)).setCell ⟨w.heap.size + 1 + 1, 6, none⟩ (.int .i64 t.2.2.2.2.1.2.2.1)).setCell ⟨w.heap.size + 1 + 1, 7, none⟩ (.int .i64 t.2.2.2.2.1.2.2.2.1)).setCell ⟨w.heap.size + 1 + 1, 8, none⟩ (.int .i64 t.2.2.2.2.1.2.2.2.2)).frozen? ⟨w.heap.size + 1 + 1, 5, none⟩ = false := by go_simp
  have y6 : (((((u0.setCell ⟨w.heap.size + 1 + 1, 4, none⟩ (.int .i64 t.2.2.2.2.1.1)).setCell ⟨w.heap.size + 1 + 1, 5, none⟩ (.int .i64 t.2.2.2.2.1.2.1)).setCell ⟨w.heap.size + 1 + 1, 6, none⟩ (.int .i64 t.2.2.2.2.1.2.2.1)).setCell ⟨w.heap.size + 1 + 1, 7, none⟩ (.int .i64 t.2.2.2.2.1.2.2.2.1)).setCell ⟨w.heap.size + 1 + 1, 8, none⟩ (.int .i64 t.2.2.2.2.1.2.2.2.2)).cell? ⟨w.heap.size + 1 + 1, 6, none⟩ = some (.int .i64 t.2.2.2.2.1.2.2.1) := by go_simp
  have yf6 : (((((u0.setCell ⟨w.heap.size + 1 + 1, 4, none⟩ (.int .i64 t.2.2.2.2.1.1)).setCell ⟨w.heap.size + 1 + 1, 5, none⟩ (.int .i64 t.2.2.2.2.1.2.1)).setCell ⟨w.heap.size + 1 + 1, 6, none⟩ (.int .i64 t.2.2.2.2.1.2.2.1)).setCell ⟨w.heap.size + 1 + 1, 7, none⟩ (.int .i64 t.2.2.2.2.1.2.2.2.1)).setCell ⟨w.heap.size + 1 + 1, 8, none⟩ (.int .i64 t.2.2.2.2.1.2.2.2.2)).frozen? ⟨w.heap.size + 1 + 1, 6, none⟩ = false := by go_simp
  have y7 : (((((u0.setCell ⟨w.heap.size + 1 + 1, 4, none⟩ (.int .i64 t.2.2.2.2.1.1)).setCell ⟨w.heap.size + 1 + 1, 5, none⟩ (.int .i64 t.2.2.2.2.1.2.1)).setCell ⟨w.heap.size + 1 + 1, 6, none⟩ (.int .i64 t.2.2.2.2.1.2.2.1)).setCell ⟨w.heap.size + 1 + 1, 7, none⟩ (.int .i64 t.2.2.2.2.1.2.2.2.1)).setCell ⟨w.heap.size + 1 + 1, 8, none⟩ (.int .i64 t.2.2.2.2.1.2.2.2.2)).cell? ⟨w.heap.size + 1 + 1, 7, none⟩ = some (.int .i64 t.2.2.2.2.1.2.2.2.1) := by go_simp
  have yf7 : (((((u0.setCell ⟨w.heap.size + 1 + 1, 4, none⟩ (.int .i64 t.2.2.2.2.1.1)).setCell ⟨w.heap.size + 1 + 1, 5, none⟩ (.int .i64 t.2.2.2.2.1.2.1)).setCell ⟨w.heap.size + 1 + 1, 6, none⟩ (.int .i64 t.2.2.2.2.1.2.2.1)).setCell ⟨w.heap.size + 1 + 1, 7, none⟩ (.int .i64 t.2.2.2.2.1.2.2.2.1)).setCell ⟨w.heap.size + 1 + 1, 8, none⟩ (.int .i64 t.2.2.2.2.1.2.2.2.2)).frozen? ⟨w.heap.size + 1 + 1, 7, none⟩ = false := by go_simp
  have y8 : (((((u0.setCell ⟨w.heap.size + 1 + 1, 4, none⟩ (.int .i64 t.2.2.2.2.1.1)).setCell ⟨w.heap.size + 1 + 1, 5, none⟩ (.int .i64 t.2.2.2.2.1.2.1)).setCell ⟨w.heap.size + 1 + 1, 6, none⟩ (.int .i64 t.2.2.2.2.1.2.2.1)).setCell ⟨w.heap.size + 1 + 1, 7, none⟩ (.int .i64 t.2.2.2.2.1.2.2.2.1)).setCell ⟨w.heap.size + 1 + 1, 8, none⟩ (.int .i64 t.2.2.2.2.1.2.2.2.2)).cell? ⟨w.heap.size + 1 + 1, 8, none⟩ = some (.int .i64 t.2.2.2.2.1.2.2.2.2) := by go_simp
  have yf8 : (((((u0.setCell ⟨w.heap.size + 1 + 1, 4, none⟩ (.int .i64 t.2.2.2.2.1.1)).setCell ⟨w.heap.size + 1 + 1, 5, none⟩ (.int .i64 t.2.2.2.2.1.2.1)).setCell ⟨w.heap.size + 1 + 1, 6, none⟩ (.int .i64 t.2.2.2.2.1.2.2.1)).setCell ⟨w.heap.size + 1 + 1, 7, none⟩ (.int .i64 t.2.2.2.2.1.2.2.2.1)).setCell ⟨w.heap.size + 1 + 1, 8, none⟩ (.int .i64 t.2.2.2.2.1.2.2.2.2)).frozen? ⟨w.heap.size + 1 + 1, 8, none⟩ = false := by go_simp
  have y9 : (((((u0.setCell ⟨w.heap.size + 1 + 1, 4, none⟩ (.int .i64 t.2.2.2.2.1.1)).setCell ⟨w.heap.size + 1 + 1, 5, none⟩ (.int .i64 t.2.2.2.2.1.2.1)).setCell ⟨w.heap.size + 1 + 1, 6, none⟩ (.int .i64 t.2.2.2.2.1.2.2.1)).setCell ⟨w.heap.size + 1 + 1, 7, none⟩ (.int .i64 t.2.2.2.2.1.2.2.2.1)).setCell ⟨w.heap.size + 1 + 1, 8, none⟩ (.int .i64 t.2.2.2.2.1.2.2.2.2)).cell? ⟨w.heap.size + 1 + 1, 9, none⟩ = some (.slice none 0 0) := by go_simp
  have yf9 : (((((u0.setCell ⟨w.heap.size + 1 + 1, 4, none⟩ (.int .i64 t.2.2.2.2.1.1)).setCell ⟨w.heap.size + 1 + 1, 5, none⟩ (.int .i64 t.2.2.2.2.1.2.1)).setCell ⟨w.heap.size + 1 + 1, 6, none⟩ (.int .i64 t.2.2.2.2.1.2.2.1)).setCell ⟨w.heap.size + 1 + 1, 7, none⟩ (.int .i64 t.2.2.2.2.1.2.2.2.1)).setCell ⟨w.heap.size + 1 + 1, 8, none⟩ (.int .i64 t.2.2.2.2.1.2.2.2.2)).frozen? ⟨w.heap.size + 1 + 1, 9, none⟩ = false := by go_simp
  have y10 : (((((u0.setCell ⟨w.heap.size + 1 + 1, 4, none⟩ (.int .i64 t.2.2.2.2.1.1)).setCell ⟨w.heap.size + 1 + 1, 5, none⟩ (.int .i64 t.2.2.2.2.1.2.1)).setCell ⟨w.heap.size + 1 + 1, 6, none⟩ (.int .i64 t.2.2.2.2.1.2.2.1)).setCell ⟨w.heap.size + 1 + 1, 7, none⟩ (.int .i64 t.2.2.2.2.1.2.2.2.1)).setCell ⟨w.heap.size + 1 + 1, 8, none⟩ (.int .i64 t.2.2.2.2.1.2.2.2.2)).cell? ⟨w.heap.size + 1 + 1, 10, none⟩ = some (.slice none 0 0) := by go_simp
  have yf10 : (((((u0.setCell ⟨w.heap.size + 1 + 1, 4, none⟩ (.int .i64 t.2.2.2.2.1.1)).setCell ⟨w.heap.size + 1 + 1, 5, none⟩ (.int .i64 t.2.2.2.2.1.2.1)).setCell ⟨w.heap.size + 1 + 1, 6, none⟩ (.int .i64 t.2.2.2.2.1.2.2.1)).setCell ⟨w.heap.size + 1 + 1, 7, none⟩ (.int .i64 t.2.2.2.2.1.2.2.2.1)).setCell ⟨w.heap.size + 1 + 1, 8, none⟩ (.int .i64 t.2.2.2.2.1.2.2.2.2)).frozen? ⟨w.heap.size + 1 + 1, 10, none⟩ = false := by go_simp
  have hl : w.heap.size + 1 + 1 < (((((u0.setCell ⟨w.heap.size + 1 + 1, 4, none⟩ (.int .i64 t.2.2.2.2.1.1)).setCell ⟨w.heap.size + 1 + 1, 5, none⟩ (.int .i64 t.2.2.2.2.1.2.1)).setCell ⟨w.heap.size + 1 + 1, 6, none⟩ (.int .i64 t.2.2.2.2.1.2.2.1)).setCell ⟨w.heap.size + 1 + 1, 7, none⟩ (.int .i64 t.2.2.2.2.1.2.2.2.1)).setCell ⟨w.heap.size + 1 + 1, 8, none⟩ (.int .i64 t.2.2.2.2.1.2.2.2.2)).heap.size := by simpa using hl
  have hsz0 : (((((u0.setCell ⟨w.heap.size + 1 + 1, 4, none⟩ (.int .i64 t.2.2.2.2.1.1)).setCell ⟨w.heap.size + 1 + 1, 5, none⟩ (.int .i64 t.2.2.2.2.1.2.1)).setCell ⟨w.heap.size + 1 + 1, 6, none⟩ (.int .i64 t.2.2.2.2.1.2.2.1)).setCell ⟨w.heap.size + 1 + 1, 7, none⟩ (.int .i64 t.2.2.2.2.1.2.2.2.1)).setCell ⟨w.heap.size + 1 + 1, 8, none⟩ (.int .i64 t.2.2.2.2.1.2.2.2.2)).heap.size = u0.heap.size := by simp
  go_wp2_with fail
  generalize (((((u0.setCell ⟨w.heap.size + 1 + 1, 4, none⟩ (.int .i64 t.2.2.2.2.1.1)).setCell ⟨w.heap.size + 1 + 1, 5, none⟩ (.int .i64 t.2.2.2.2.1.2.1)).setCell ⟨w.heap.size + 1 + 1, 6, none⟩ (.int .i64 t.2.2.2.2.1.2.2.1)).setCell ⟨w.heap.size + 1 + 1, 7, none⟩ (.int .i64 t.2.2.2.2.1.2.2.2.1)).setCell ⟨w.heap.size + 1 + 1, 8, none⟩ (.int .i64 t.2.2.2.2.1.2.2.2.2)) = v1 at *
  refine (k0.out _ hB).mono ?_
  rintro e u1 ⟨Ar, nr, cr, rfl, g0, hb1⟩
  have hB := hB.trans (hb1.mono hB.size)
  have hzhb1 := hb1.size
  have x10 := keepc hb1 x10
  have z0 := keepc hb1 z0
  have zf0 := keepf hb1 (by omega) zf0
  have z1 := keepc hb1 z1
  have zf1 := keepf hb1 (by omega) zf1
  have z2 := keepc hb1 z2
  have zf2 := keepf hb1 (by omega) zf2
  have z3 := keepc hb1 z3
  have zf3 := keepf hb1 (by omega) zf3
  have z4 := keepc hb1 z4
  have zf4 := keepf hb1 (by omega) zf4
  have z5 := keepc hb1 z5
  have zf5 := keepf hb1 (by omega) zf5
  have z6 := keepc hb1 z6
  have zf6 := keepf hb1 (by omega) zf6
  have z7 := keepc hb1 z7
  have zf7 := keepf hb1 (by omega) zf7
  have z8 := keepc hb1 z8
  have zf8 := keepf hb1 (by omega) zf8
  have z9 := keepc hb1 z9
  have zf9 := keepf hb1 (by omega) zf9
  have z10 := keepc hb1 z10
  have zf10 := keepf hb1 (by omega) zf10
  have y0 := keepc hb1 y0
  have yf0 := keepf hb1 (by omega) yf0
  have y1 := keepc hb1 y1
  have yf1 := keepf hb1 (by omega) yf1
  have y2 := keepc hb1 y2
  have yf2 := keepf hb1 (by omega) yf2
  have y3 := keepc hb1 y3
  have yf3 := keepf hb1 (by omega) yf3
  have y4 := keepc hb1 y4
  have yf4 := keepf hb1 (by omega) yf4
  have y5 := keepc hb1 y5
  have yf5 := keepf hb1 (by omega) yf5
  have y6 := keepc hb1 y6
  have yf6 := keepf hb1 (by omega) yf6
  have y7 := keepc hb1 y7
  have yf7 := keepf hb1 (by omega) yf7
  have y8 := keepc hb1 y8
  have yf8 := keepf hb1 (by omega) yf8
  have y9 := keepc hb1 y9
  have yf9 := keepf hb1 (by omega) yf9
  have y10 := keepc hb1 y10
  have yf10 := keepf hb1 (by omega) yf10
  have hl := Nat.lt_of_lt_of_le hl hb1.size
  have hA : Above (w.heap.size + 1 + 1 + 1) u1 (u1.setCell ⟨w.heap.size + 1 + 1, 9, none⟩ (.slice Ar nr cr)) := by repeat (first | (with_reducible exact Above.refl _ _) | (with_reducible refine Above.drew ?_) | ((with_reducible refine Above.setCell ?_ ?_ _); rotate_left; (focus (first | (simp; done) | (simp; omega)))))
  have hB : Below w.heap.size w (u1.setCell ⟨w.heap.size + 1 + 1, 9, none⟩ (.slice Ar nr cr)) := by repeat (first | (with_reducible exact hB) | (with_reducible refine Below.drew ?_) | ((with_reducible refine Below.setCell ?_ ?_ _); rotate_left; (focus (first | (simp; done) | (simp; omega)))))
  have x10 : (u1.setCell ⟨w.heap.size + 1 + 1, 9, none⟩ (.slice Ar nr cr)).cell? ⟨w.heap.size, 10, none⟩ = some (.slice B p d) := by go_simp
  have z0 : (u1.setCell ⟨w.heap.size + 1 + 1, 9, none⟩ (.slice Ar nr cr)).cell? ⟨w.heap.size + 1, 0, none⟩ = some (.int .i64 0) := by go_simp
  have zf0 : (u1.setCell ⟨w.heap.size + 1 + 1, 9, none⟩ (.slice Ar nr cr)).frozen? ⟨w.heap.size + 1, 0, none⟩ = false := by go_simp
  have z1 : (u1.setCell ⟨w.heap.size + 1 + 1, 9, none⟩ (.slice Ar nr cr)).cell? ⟨w.heap.size + 1, 1, none⟩ = some (.int .i64 0) := by go_simp
  have zf1 : (u1.setCell ⟨w.heap.size + 1 + 1, 9, none⟩ (.slice Ar nr cr)).frozen? ⟨w.heap.size + 1, 1, none⟩ = false := by go_simp
  have z2 : (u1.setCell ⟨w.heap.size + 1 + 1, 9, none⟩ (.slice Ar nr cr)).cell? ⟨w.heap.size + 1, 2, none⟩ = some (.int .i64 0) := by go_simp
  have zf2 : (u1.setCell ⟨w.heap.size + 1 + 1, 9, none⟩ (.slice Ar nr cr)).frozen? ⟨w.heap.size + 1, 2, none⟩ = false := by go_simp
  have z3 : (u1.setCell ⟨w.heap.size + 1 + 1, 9, none⟩ (.slice Ar nr cr)).cell? ⟨w.heap.size + 1, 3, none⟩ = some (.int .i64 0) := by go_simp
  have zf3 : (u1.setCell ⟨w.heap.size + 1 + 1, 9, none⟩ (.slice Ar nr cr)).frozen? ⟨w.heap.size + 1, 3, none⟩ = false := by go_simp
  have z4 : (u1.setCell ⟨w.heap.size + 1 + 1, 9, none⟩ (.slice Ar nr cr)).cell? ⟨w.heap.size + 1, 4, none⟩ = some (.int .i64 0) := by go_simp
  have zf4 : (u1.setCell ⟨w.heap.size + 1 + 1, 9, none⟩ (.slice Ar nr cr)).frozen? ⟨w.heap.size + 1, 4, none⟩ = false := by go_simp
  have z5 : (u1.setCell ⟨w.heap.size + 1 + 1, 9, none⟩ (.slice Ar nr cr)).cell? ⟨w.heap.size + 1, 5, none⟩ = some (.int .i64 0) := by go_simp
  have zf5 : (u1.setCell ⟨w.heap.size + 1 + 1, 9, none⟩ (.slice Ar nr cr)).frozen? ⟨w.heap.size + 1, 5, none⟩ = false := by go_simp
  have z6 : (u1.setCell ⟨w.heap.size + 1 + 1, 9, none⟩ (.slice Ar nr cr)).cell? ⟨w.heap.size + 1, 6, none⟩ = some (.int .i64 0) := by go_simp
  have zf6 : (u1.setCell ⟨w.heap.size + 1 + 1, 9, none⟩ (.slice Ar nr cr)).frozen? ⟨w.heap.size + 1, 6, none⟩ = false := by go_simp
  have z7 : (u1.setCell ⟨w.heap.size + 1 + 1, 9, none⟩ (.slice Ar nr cr)).cell? ⟨w.heap.size + 1, 7, none⟩ = some (.int .i64 0) := by go_simp
  have zf7 : (u1.setCell ⟨w.heap.size + 1 + 1, 9, none⟩ (.slice Ar nr cr)).frozen? ⟨w.heap.size + 1, 7, none⟩ = false := by go_simp
  have z8 : (u1.setCell ⟨w.heap.size + 1 + 1, 9, none⟩ (.slice Ar nr cr)).cell? ⟨w.heap.size + 1, 8, none⟩ = some (.int .i64 0) := by go_simp
  have zf8 : (u1.setCell ⟨w.heap.size + 1 + 1, 9, none⟩ (.slice Ar nr cr)).frozen? ⟨w.heap.size + 1, 8, none⟩ = false := by go_simp
  have z9 : (u1.setCell ⟨w.heap.size + 1 + 1, 9, none⟩ (.slice Ar nr cr)).cell? ⟨w.heap.size + 1, 9, none⟩ = some (.slice none 0 0) := by go_simp
  have zf9 : (u1.setCell ⟨w.heap.size + 1 + 1, 9, none⟩ (.slice Ar nr cr)).frozen? ⟨w.heap.size + 1, 9, none⟩ = false := by go_simp
  have z10 : (u1.setCell ⟨w.heap.size + 1 + 1, 9, none⟩ (.slice Ar nr cr)).cell? ⟨w.heap.size + 1, 10, none⟩ = some (.slice none 0 0) := by go_simp
  have zf10 : (u1.setCell ⟨w.heap.size + 1 + 1, 9, none⟩ (.slice Ar nr cr)).frozen? ⟨w.heap.size + 1, 10, none⟩ = false := by go_simp
  have y0 : (u1.setCell ⟨w.heap.size + 1 + 1, 9, none⟩ (.slice Ar nr cr)).cell? ⟨w.heap.size + 1 + 1, 0, none⟩ = some (.int .i64 t.1) := by go_simp
  have yf0 : (u1.setCell ⟨w.heap.size + 1 + 1, 9, none⟩ (.slice Ar nr cr)).frozen? ⟨w.heap.size + 1 + 1, 0, none⟩ = false := by go_simp
  have y1 : (u1.setCell ⟨w.heap.size + 1 + 1, 9, none⟩ (.slice Ar nr cr)).cell? ⟨w.heap.size + 1 + 1, 1, none⟩ = some (.int .i64 t.2.1) := by go_simp
  have yf1 : (u1.setCell ⟨w.heap.size + 1 + 1, 9, none⟩ (.slice Ar nr cr)).frozen? ⟨w.heap.size + 1 + 1, 1, none⟩ = false := by go_simp
  have y2 : (u1.setCell ⟨w.heap.size + 1 + 1, 9, none⟩ (.slice Ar nr cr)).cell? ⟨w.heap.size + 1 + 1, 2, none⟩ = some (.int .i64 t.2.2.1) := by go_simp
  have yf2 : (u1.setCell ⟨w.heap.size + 1 + 1, 9, none⟩ (.slice Ar nr cr)).frozen? ⟨w.heap.size + 1 + 1, 2, none⟩ = false := by go_simp
  have y3 : (u1.setCell ⟨w.heap.size + 1 + 1, 9, none⟩ (.slice Ar nr cr)).cell? ⟨w.heap.size + 1 + 1, 3, none⟩ = some (.int .i64 t.2.2.2.1) := by go_simp
  have yf3 : (u1.setCell ⟨w.heap.size + 1 + 1, 9, none⟩ (.slice Ar nr cr)).frozen? ⟨w.heap.size + 1 + 1, 3, none⟩ = false := by go_simp
  have y4 : (u1.setCell ⟨w.heap.size + 1 + 1, 9, none⟩ (.slice Ar nr cr)).cell? ⟨w.heap.size + 1 + 1, 4, none⟩ = some (.int .i64 t.2.2.2.2.1.1) := by go_simp
  have yf4 : (u1.setCell ⟨w.heap.size + 1 + 1, 9, none⟩ (.slice Ar nr cr)).frozen? ⟨w.heap.size + 1 + 1, 4, none⟩ = false := by go_simp
  have y5 : (u1.setCell ⟨w.heap.size + 1 + 1, 9, none⟩ (.slice Ar nr cr)).cell? ⟨w.heap.size + 1 + 1, 5, none⟩ = some (.int .i64 t.2.2.2.2.1.2.1) := by go_simp
  have yf5 : (u1.setCell ⟨w.heap.size + 1 + 1, 9, none⟩ (.slice Ar nr cr)).frozen? ⟨w.heap.size + 1 + 1, 5, none⟩ = false := by go_simp
  have y6 : (u1.setCell ⟨w.heap.size + 1 + 1, 9, none⟩ (.slice Ar nr cr)).cell? ⟨w.heap.size + 1 + 1, 6, none⟩ = some (.int .i64 t.2.2.2.2.1.2.2.1) := by go_simp
  have yf6 : (u1.setCell ⟨w.heap.size + 1 + 1, 9, none⟩ (.slice Ar nr cr)).frozen? ⟨w.heap.size + 1 + 1, 6, none⟩ = false := by go_simp
  have y7 : (u1.setCell ⟨w.heap.size + 1 + 1, 9, none⟩ (.slice Ar nr cr)).cell? ⟨w.heap.size + 1 + 1, 7, none⟩ = some (.int .i64 t.2.2.2.2.1.2.2.2.1) := by go_simp
  have yf7 : (u1.setCell ⟨w.heap.size + 1 + 1, 9, none⟩ (.slice Ar nr cr)).frozen? ⟨w.heap.size + 1 + 1, 7, none⟩ = false := by go_simp
  have y8 : (u1.setCell ⟨w.heap.size + 1 + 1, 9, none⟩ (.slice Ar nr cr)).cell? ⟨w.heap.size + 1 + 1, 8, none⟩ = some (.int .i64 t.2.2.2.2.1.2.2.2.2) := by go_simp
  have yf8 : (u1.setCell ⟨w.heap.size + 1 + 1, 9, none⟩ (.slice Ar nr cr)).frozen? ⟨w.heap.size + 1 + 1, 8, none⟩ = false := by go_simp
  have y9 : (u1.setCell ⟨w.heap.size + 1 + 1, 9, none⟩ (.slice Ar nr cr)).cell? ⟨w.heap.size + 1 + 1, 9, none⟩ = some (.slice Ar nr cr) := by go_simp
  have yf9 : (u1.setCell ⟨w.heap.size + 1 + 1, 9, none⟩ (.slice Ar nr cr)).frozen? ⟨w.heap.size + 1 + 1, 9, none⟩ = false := by go_simp
  have y10 : (u1.setCell ⟨w.heap.size + 1 + 1, 9, none⟩ (.slice Ar nr cr)).cell? ⟨w.heap.size + 1 + 1, 10, none⟩ = some (.slice none 0 0) := by go_simp
  have yf10 : (u1.setCell ⟨w.heap.size + 1 + 1, 9, none⟩ (.slice Ar nr cr)).frozen? ⟨w.heap.size + 1 + 1, 10, none⟩ = false := by go_simp
  have hl : w.heap.size + 1 + 1 < (u1.setCell ⟨w.heap.size + 1 + 1, 9, none⟩ (.slice Ar nr cr)).heap.size := by simpa using hl
  have hsz1 : (u1.setCell ⟨w.heap.size + 1 + 1, 9, none⟩ (.slice Ar nr cr)).heap.size = u1.heap.size := by simp
  go_wp2_with fail
  have g0 := g0.above hA (by omega)
  generalize (u1.setCell ⟨w.heap.size + 1 + 1, 9, none⟩ (.slice Ar nr cr)) = v2 at *
  refine (k1.out _ hB).mono ?_
  rintro e u2 ⟨Br, pr, dr, rfl, g1, hb2⟩
  have hB := hB.trans (hb2.mono hB.size)
  have hzhb2 := hb2.size
  have g0 := g0.below hb2 (by omega)
  have z0 := keepc hb2 z0
  have zf0 := keepf hb2 (by omega) zf0
  have z1 := keepc hb2 z1
  have zf1 := keepf hb2 (by omega) zf1
  have z2 := keepc hb2 z2
  have zf2 := keepf hb2 (by omega) zf2
  have z3 := keepc hb2 z3
  have zf3 := keepf hb2 (by omega) zf3
  have z4 := keepc hb2 z4
  have zf4 := keepf hb2 (by omega) zf4
  have z5 := keepc hb2 z5
  have zf5 := keepf hb2 (by omega) zf5
  have z6 := keepc hb2 z6
  have zf6 := keepf hb2 (by omega) zf6
  have z7 := keepc hb2 z7
  have zf7 := keepf hb2 (by omega) zf7
  have z8 := keepc hb2 z8
  have zf8 := keepf hb2 (by omega) zf8
  have z9 := keepc hb2 z9
  have zf9 := keepf hb2 (by omega) zf9
  have z10 := keepc hb2 z10
  have zf10 := keepf hb2 (by omega) zf10
  have y0 := keepc hb2 y0
  have yf0 := keepf hb2 (by omega) yf0
  have y1 := keepc hb2 y1
  have yf1 := keepf hb2 (by omega) yf1
  have y2 := keepc hb2 y2
  have yf2 := keepf hb2 (by omega) yf2
  have y3 := keepc hb2 y3
  have yf3 := keepf hb2 (by omega) yf3
  have y4 := keepc hb2 y4
  have yf4 := keepf hb2 (by omega) yf4
  have y5 := keepc hb2 y5
  have yf5 := keepf hb2 (by omega) yf5
  have y6 := keepc hb2 y6
  have yf6 := keepf hb2 (by omega) yf6
  have y7 := keepc hb2 y7
  have yf7 := keepf hb2 (by omega) yf7
  have y8 := keepc hb2 y8
  have yf8 := keepf hb2 (by omega) yf8
  have y9 := keepc hb2 y9
  have yf9 := keepf hb2 (by omega) yf9
  have y10 := keepc hb2 y10
  have yf10 := keepf hb2 (by omega) yf10
  have hl := Nat.lt_of_lt_of_le hl hb2.size
  go_wp2
  refine bodyPost_ret (v := .agg #[.int .i64 t.1, .int .i64 t.2.1, .int .i64 t.2.2.1, .int .i64 t.2.2.2.1, .int .i64 t.2.2.2.2.1.1, .int .i64 t.2.2.2.2.1.2.1, .int .i64 t.2.2.2.2.1.2.2.1, .int .i64 t.2.2.2.2.1.2.2.2.1, .int .i64 t.2.2.2.2.1.2.2.2.2, .slice Ar nr cr, .slice Br pr dr]) (by simp [results, Tryd.results6, go_sem, y0, y1, y2, y3, y4, y5, y6, y7, y8, y9, y10, z0, z1, z2, z3, z4, z5, z6, z7, z8, z9, z10]) rfl ⟨Ar, Br, nr, cr, pr, dr, rfl, ?_, ?_⟩
  rotate_left
  · repeat (first | (with_reducible exact hB) | (with_reducible refine Below.drew ?_) | ((with_reducible refine Below.setCell ?_ ?_ _); rotate_left; (focus (first | (simp; done) | (simp; omega)))))
  · generalize hwf : (World.setCell _ _ _) = wf
    have hA : Above (w.heap.size + 1 + 1 + 1) u2 wf := by
      rw [← hwf]
      repeat (first | (with_reducible exact Above.refl _ _) | (with_reducible refine Above.drew ?_) | ((with_reducible refine Above.setCell ?_ ?_ _); rotate_left; (focus (first | (simp; done) | (simp; omega)))))
    have hws : wf.heap.size = u2.heap.size := by rw [← hwf]; simp
    clear hwf
    have g0 := g0.above hA (by omega)
    have g1 := g1.above voteF_kept hA (by omega)
    exact ⟨v2.heap.size, _, _, _, _, _, _, by omega, by omega, rfl, g0.mono (by omega) (by omega), g1.mono voteF_kept (by omega) (by omega)⟩
end Go.Proofs.YtocifmnkohgfjaaDoor
