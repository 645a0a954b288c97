/-
  Words for deep copies: rows of the call's own, written element by element.
-/
import Derived.Test.YtocifmnkohgfjaaDoorNF
import Derived.Test.YtocifmnkohgfjaaDoorNP
namespace Go.Proofs.YtocifmnkohgfjaaDoor
open Go.RowKit Rg
set_option linter.unusedVariables false
set_option linter.unusedSimpArgs false

/-- Nothing from block K on is written. -/
structure Above (K : Nat) (w w' : World) : Prop where
  keep : ∀ b, K ≤ b → w'.heap[b]? = w.heap[b]?
section
variable {K : Nat} {a w w' : World}
theorem Above.refl (K : Nat) (w : World) : Above K w w := ⟨fun _ _ => rfl⟩
theorem Above.setCell (h : Above K a w) {p : Addr} (hp : p.block < K) (u : Value) : Above K a (w.setCell p u) := ⟨fun b hb => (Below.heap_setCell w p u b (by omega)).trans (h.keep b hb)⟩
theorem Above.drew (h : Above K a w) : Above K a w.drew := ⟨h.keep⟩
theorem Above.put {g : Nat} (hg : g < K) (us : List Value) : ∀ {w : World} {j : Nat}, Above K a w → Above K a (putCells w g j us) := by
  induction us with
  | nil => intro w j h; exact h
  | cons u us ih => intro w j h; exact ih (h.setCell (p := ⟨g, j, none⟩) hg u)
end
theorem Own.cellAt {α : Type} {enc : α → List Value} {sz lo g n c k : Nat} {e : TypeId} {w : World} {xs : List α} (hl : ∀ x, (enc x).length = sz) (h : Own enc sz e w lo (.slice (some ⟨g, 0, none⟩) n c) xs) (hk : k < n) (j : Nat) (hj : j < sz) : ∃ u, w.cell? ⟨g, k * sz + j, none⟩ = some u := by
  obtain ⟨rfl, _, hs⟩ := h.slAt hl
  have hj' : j < (enc xs[k]).length := by rw [hl]; exact hj
  have := hs.at_ hk j _ (List.getElem?_eq_getElem hj')
  rw [Nat.zero_add] at this
  exact ⟨_, this⟩
theorem Own.cellAt0 {α : Type} {enc : α → List Value} {sz lo g n c k : Nat} {e : TypeId} {w : World} {xs : List α} (hl : ∀ x, (enc x).length = sz) (h : Own enc sz e w lo (.slice (some ⟨g, 0, none⟩) n c) xs) (hk : k < n) (hj : 0 < sz) : ∃ u, w.cell? ⟨g, k * sz, none⟩ = some u := h.cellAt hl hk 0 hj
theorem Own.above {α : Type} {enc : α → List Value} {sz lo K : Nat} {e : TypeId} {w w' : World} {v : Value} {xs : List α} (h : Own enc sz e w lo v xs) (hA : Above K w w') (hK : K ≤ lo) : Own enc sz e w' lo v xs :=
  h.keep fun b hb => hA.keep b (by have := (h.lt b hb).1; omega)
theorem OwnB.above {α : Type} {enc : α → List Value} {sz lo hi n c K : Nat} {A : Option Addr} {e : TypeId} {w w' : World} {xs : List α} (h : OwnB enc sz e w lo hi A n c xs) (hA : Above K w w') (hK : K ≤ lo) : OwnB enc sz e w' lo hi A n c xs :=
  h.keep fun b hb _ => hA.keep b (by omega)
theorem OwnB.below {α : Type} {enc : α → List Value} {sz lo hi n c B : Nat} {A : Option Addr} {e : TypeId} {w w' : World} {xs : List α} (h : OwnB enc sz e w lo hi A n c xs) (hb : Below B w w') (hB : hi ≤ B) : OwnB enc sz e w' lo hi A n c xs :=
  h.keep fun b _ h2 => hb.block b (by omega)
theorem Fr.above {α : Type} {sz : Nat} {e : TypeId} {F : ElR α} {w w' : World} {lo hi n c K : Nat} {A : Option Addr} {ts : List α} (K' : Kept F) (h : Fr sz e F w lo hi A n c ts) (hA : Above K w w') (hK : K ≤ lo) : Fr sz e F w' lo hi A n c ts :=
  h.keep K' fun b hb _ => hA.keep b (by omega)
theorem FL.above {α : Type} {sz : Nat} {F : ElR α} {w w' : World} {lo hi K : Nat} {cs : List (Cs sz)} {ts : List α} (K' : Kept F) (h : FL F w lo hi cs ts) (hA : Above K w w') (hK : K ≤ lo) : FL F w' lo hi cs ts :=
  h.keep K' fun b hb _ => hA.keep b (by omega)
/-- Zero elements. -/
theorem own_madeC {sz : Nat} (hsz : 0 < sz) (e : TypeId) (w : World) (lo : Nat) (n : Nat) (x : Cs sz) (z : Value) (hz : z.cells.toList = x.val) (hlo : lo ≤ w.heap.size) (hn : n ≤ maxLen) :
    Own Cs.val sz e (w.alloc (.cells (madeCells z.cells (n * sz)) e)) lo (.slice (some ⟨w.heap.size, 0, none⟩) n n) (List.replicate n x) := own_made Cs.len hsz e w lo n x z hz hlo hn
theorem set_at_len {α : Type} (xs : List α) (z x : α) (k n : Nat) (hn : xs.length = k) (hk : k < n) : (xs ++ List.replicate (n - k) z).set k x = (xs ++ [x]) ++ List.replicate (n - (k + 1)) z := by
  subst hn
  rw [List.set_append_right _ _ (Nat.le_refl _), Nat.sub_self, show n - xs.length = (n - (xs.length + 1)) + 1 by omega, List.replicate_succ, List.set_cons_zero, List.append_assoc]
  rfl
theorem szO_yes {l t : Nat} (h : t ≤ l) : szO l t = ((l - t : Nat) : Int) := by unfold szO; rw [if_neg (by omega)]; omega
theorem szO_no {l t : Nat} (h : l < t) : szO l t = -1 := by unfold szO; rw [if_pos h]
end Go.Proofs.YtocifmnkohgfjaaDoor
