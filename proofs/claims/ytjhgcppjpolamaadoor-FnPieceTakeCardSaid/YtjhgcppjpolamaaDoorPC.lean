/-
  'FnExactPieceOf' returns true, for every text: both packages' 'PieceOf' answer alike.
  Conditions: none.
-/
import Derived.Test.YtjhgcppjpolamaaDoorPB
import Derived.Test.YtjhgcppjpolamaaDoorRegI
import Derived.Test.YtjhgcppjpolamaaDoorOpen
namespace Go.Proofs.YtjhgcppjpolamaaDoor
open Go.RowKit Rg
set_option linter.unusedVariables false
set_option linter.unusedSimpArgs false

theorem pcs_len (s : ByteArray) : (pcs s).length ≤ s.size + 1 := by
  generalize hm : s.size = m
  induction m using Nat.strongRecOn generalizing s with
  | _ m ih =>
    by_cases h : 12 < s.size
    · rw [pcs_more h]
      have h1 := ih (s.extract 12 s.size).size (by simp; omega) _ rfl
      simp at h1 ⊢
      omega
    · rw [pcs_last h]; simp
theorem pieces_len (s : ByteArray) (h : s.size ≤ 1048576) : (pieces s).length ≤ 1048570 := by
  unfold pieces
  split
  · simp
  · have := pcs_len s; omega
theorem eqSameS_c {A B : Option Addr} {n m c d lo lo' : Nat} {xs : List ByteArray} {w : World} (h : Own encS 1 9 w lo (.slice A n c) xs) (h' : Own encS 1 9 w lo' (.slice B m d) xs) (hb : xs.length ≤ 1048570) :
    Calls Tryd.prog 20 #[.slice A n c, .slice B m d] w fun e w' => e = .returned (.bool true) ∧ Below w.heap.size w w' := by
  obtain ⟨h1, _, h2⟩ := h.slAt encS_len
  obtain ⟨h3, _, h4⟩ := h'.slAt encS_len
  have := eqStringS_c A B n m c d _ _ _ _ xs xs w h1 h3 (by omega) (by omega) h2 h4 (Nat.le_refl _) (Nat.le_refl _)
  simpa using this
theorem markSO_c {A : Option Addr} {n c lo : Nat} {xs : List ByteArray} {w : World} (h : Own encS 1 9 w lo (.slice A n c) xs) (hb : xs.length ≤ 1048570) :
    Calls Tryd.prog 25 #[.slice A n c, .int .i64 1] w fun e w' => e = .returned (.int .i64 (1 + (n : Int))) ∧ Own encS 1 9 w' lo (.slice A n c) (smarks 1 n) ∧ Only w.heap.size (Value.slice A n c).ownBlock w w' := by
  have h1 := h.lenEq
  have := markStringS_c A n c lo 1 xs w h1 (by omega) (by omega) (by omega) h
  simpa using this
/-! ### The row of 'laws.FnExactPieceOf' -/
end Go.Proofs.YtjhgcppjpolamaaDoor
