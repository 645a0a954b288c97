/-
  Letters: boxes; 'SaidHas', 'l3Has'. (Printed by gen_ne.py.)
  Conditions: none.
-/
import Derived.Test.YtocifmnkohgfjaaDoorND
namespace Go.Proofs.YtocifmnkohgfjaaDoor
open Go.RowKit Rg
set_option linter.unusedVariables false
set_option linter.unusedSimpArgs false

/-- A variable of the call's own that holds a letter. -/
def MBox (w : World) (b lo hi : Nat) (m : MsgT) : Prop := ∃ (A B : Option Addr) (n c p d : Nat), w.heap[b]? = some (.cells #[.int .i64 m.1, .int .i64 m.2.1, .int .i64 m.2.2.1, .int .i64 m.2.2.2.1, .int .i64 m.2.2.2.2.1.1, .int .i64 m.2.2.2.2.1.2.1, .int .i64 m.2.2.2.2.1.2.2.1, .int .i64 m.2.2.2.2.1.2.2.2.1, .int .i64 m.2.2.2.2.1.2.2.2.2, .slice A n c, .slice B p d] 34 (0, 0)) ∧ RdN 7 clR w lo hi A n c m.2.2.2.2.2.1 ∧ RdN 2 voteR w lo hi B p d m.2.2.2.2.2.2
theorem MBox.lt {w : World} {b lo hi : Nat} {m : MsgT} (h : MBox w b lo hi m) : b < w.heap.size := by
  obtain ⟨A, B, n, c, p, d, h, _⟩ := h
  exact lt_of_heap h
theorem MBox.below {w w' : World} {b lo hi K : Nat} {m : MsgT} (h : MBox w b lo hi m) (hb : Below K w w') (hK : b < K) (hhi : hi ≤ K) : MBox w' b lo hi m := by
  obtain ⟨A, B, n, c, p, d, h, h1, h2⟩ := h
  exact ⟨A, B, n, c, p, d, (hb.block b hK).trans h, h1.below (flat_kept _) hb hhi, h2.below vote_kept hb hhi⟩
theorem MBox.cells {w : World} {b lo hi : Nat} {m : MsgT} (h : MBox w b lo hi m) : ∃ (A B : Option Addr) (n c p d : Nat), w.cell? ⟨b, 0, none⟩ = some (.int .i64 m.1) ∧ w.cell? ⟨b, 1, none⟩ = some (.int .i64 m.2.1) ∧ w.cell? ⟨b, 2, none⟩ = some (.int .i64 m.2.2.1) ∧ w.cell? ⟨b, 3, none⟩ = some (.int .i64 m.2.2.2.1) ∧ w.cell? ⟨b, 4, none⟩ = some (.int .i64 m.2.2.2.2.1.1) ∧ w.cell? ⟨b, 5, none⟩ = some (.int .i64 m.2.2.2.2.1.2.1) ∧ w.cell? ⟨b, 6, none⟩ = some (.int .i64 m.2.2.2.2.1.2.2.1) ∧ w.cell? ⟨b, 7, none⟩ = some (.int .i64 m.2.2.2.2.1.2.2.2.1) ∧ w.cell? ⟨b, 8, none⟩ = some (.int .i64 m.2.2.2.2.1.2.2.2.2) ∧ w.cell? ⟨b, 9, none⟩ = some (.slice A n c) ∧ w.cell? ⟨b, 10, none⟩ = some (.slice B p d) ∧ RdN 7 clR w lo hi A n c m.2.2.2.2.2.1 ∧ RdN 2 voteR w lo hi B p d m.2.2.2.2.2.2 := by
  obtain ⟨A, B, n, c, p, d, h, h1, h2⟩ := h
  exact ⟨A, B, n, c, p, d, by simp [World.cell?, h], by simp [World.cell?, h], by simp [World.cell?, h], by simp [World.cell?, h], by simp [World.cell?, h], by simp [World.cell?, h], by simp [World.cell?, h], by simp [World.cell?, h], by simp [World.cell?, h], by simp [World.cell?, h], by simp [World.cell?, h], h1, h2⟩
theorem MBox.made {w : World} {lo hi : Nat} {m : MsgT} {A B : Option Addr} {n c p d : Nat} (h1 : RdN 7 clR w lo hi A n c m.2.2.2.2.2.1) (h2 : RdN 2 voteR w lo hi B p d m.2.2.2.2.2.2) (hhi : hi ≤ w.heap.size) : MBox (w.alloc (.cells #[.int .i64 m.1, .int .i64 m.2.1, .int .i64 m.2.2.1, .int .i64 m.2.2.2.1, .int .i64 m.2.2.2.2.1.1, .int .i64 m.2.2.2.2.1.2.1, .int .i64 m.2.2.2.2.1.2.2.1, .int .i64 m.2.2.2.2.1.2.2.2.1, .int .i64 m.2.2.2.2.1.2.2.2.2, .slice A n c, .slice B p d] 34)) w.heap.size lo hi m :=
  ⟨A, B, n, c, p, d, heap_alloc_new w _, h1.below (flat_kept _) ((Below.refl _ _).alloc (Nat.le_refl _) _) hhi, h2.below vote_kept ((Below.refl _ _).alloc (Nat.le_refl _) _) hhi⟩

theorem any_eq {α : Type} [DecidableEq α] (ts : List α) (m : α) : ts.any (fun x => decide (x = m)) = decide (m ∈ ts) := by
  rw [Bool.eq_iff_iff]
  simp
end Go.Proofs.YtocifmnkohgfjaaDoor
