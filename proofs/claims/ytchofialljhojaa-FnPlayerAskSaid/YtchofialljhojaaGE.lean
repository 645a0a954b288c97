/-
  Players as the laws hold them: 'szPlayer', 'toPlayer', 'eqPlayer'; a player as an argument.
-/
import Derived.Test.YtchofialljhojaaGQ
import Derived.Test.YtchofialljhojaaOpen
namespace Go.Proofs.Ytchofialljhojaa
open Go.RowKit Rg
set_option linter.unusedVariables false
set_option linter.unusedSimpArgs false

theorem keepf {w w' : World} (hb : Below w.heap.size w w') {b j : Nat} (hl : b < w.heap.size) (h : w.frozen? ⟨b, j, none⟩ = false) : w'.frozen? ⟨b, j, none⟩ = false := by
  have e := hb.block b hl
  simp only [World.frozen?, e] at h ⊢
  exact h
theorem heap3 (w : World) (a b c : Obj) : (((w.alloc a).alloc b).alloc c).heap[w.heap.size]? = some a ∧ (((w.alloc a).alloc b).alloc c).heap[w.heap.size + 1]? = some b ∧ (((w.alloc a).alloc b).alloc c).heap[w.heap.size + 1 + 1]? = some c ∧ (((w.alloc a).alloc b).alloc c).heap.size = w.heap.size + 1 + 1 + 1 := by
  have s1 : (w.alloc a).heap.size = w.heap.size + 1 := by simp
  have s2 : ((w.alloc a).alloc b).heap.size = w.heap.size + 1 + 1 := by simp
  have k1 := heap_alloc_new w a
  have k2 := heap_alloc_new (w.alloc a) b
  have k3 := heap_alloc_new ((w.alloc a).alloc b) c
  have b2 := (Below.refl (w.alloc a).heap.size (w.alloc a)).alloc (Nat.le_refl _) b
  have b3 := (Below.refl ((w.alloc a).alloc b).heap.size ((w.alloc a).alloc b)).alloc (Nat.le_refl _) c
  rw [s1] at k2 b2
  rw [s2] at k3 b3
  exact ⟨(b3.block _ (by omega)).trans ((b2.block _ (by omega)).trans k1), (b3.block _ (by omega)).trans k2, k3, by simp⟩
theorem szReplyS_c (A : Option Addr) (n c : Nat) (w : World) (hn : n ≤ maxLen) : Calls Try.prog 50 #[.slice A n c, .int .i64 1048576] w fun e w' => e = .returned (.int .i64 (if n ≤ 1048576 then 1048576 - (n : Int) else -1)) ∧ w = w' := by
  unfold maxLen at hn
  by_cases h : n ≤ 1048576
  · simp only [h, if_true]
    go_enter Try.func50, Try.ntmps50
    go_wp2
    go_ret
    exact ⟨rfl, rfl⟩
  · simp only [h, if_false]
    go_enter Try.func50, Try.ntmps50
    go_wp2
    go_ret
    exact ⟨rfl, rfl⟩
theorem szPlayer_c (r : ReqV) (A : Option Addr) (n c : Nat) (w : World) (hn : n ≤ maxLen) : Calls Try.prog 13 #[.agg #[.int .i64 r.1, .int .i64 r.2.1, .int .i64 r.2.2.1, .int .i64 r.2.2.2.1, .int .i64 r.2.2.2.2, .slice A n c], .int .i64 1048576] w fun e w' => e = .returned (.int .i64 (if n ≤ 1048576 then 1048576 - (n : Int) else -1)) ∧ Below w.heap.size w w' := by
  go_enter Try.func13, Try.ntmps13
  go_wp2_with fail
  refine (szReplyS_c A n c _ hn).mono ?_
  rintro e w1 ⟨rfl, rfl⟩
  by_cases h : n ≤ 1048576
  · simp only [h, if_true]
    have d1 : decide ((1048576 : Int) - (n : Int) < 0) = false := by simp; omega
    go_wp2
    go_ret
    exact ⟨rfl, (Below.refl _ _).alloc (Nat.le_refl _) _⟩
  · simp only [h, if_false]
    go_wp2
    go_ret
    exact ⟨rfl, (Below.refl _ _).alloc (Nat.le_refl _) _⟩
set_option maxHeartbeats 2000000 in
theorem toPlayer_c (r : ReqV) (A : Option Addr) (n c lo hi : Nat) (xs : List ReplyT) (w : World) (hn : n = xs.length) (hb : n ≤ 1048576) (hs : Sl encReply 4 w lo hi A xs) (hhi : hi ≤ w.heap.size) :
    Calls Try.prog 15 #[.agg #[.int .i64 r.1, .int .i64 r.2.1, .int .i64 r.2.2.1, .int .i64 r.2.2.2.1, .int .i64 r.2.2.2.2, .slice A n c]] w fun e w' => ∃ A' c', e = .returned (.agg #[.int .i64 r.1, .int .i64 r.2.1, .int .i64 r.2.2.1, .int .i64 r.2.2.2.1, .int .i64 r.2.2.2.2, .slice A' xs.length c']) ∧ Own encReply 4 37 w' w.heap.size (.slice A' xs.length c') xs ∧ Below w.heap.size w w' := by
  have hn' := hide hn
  clear hn
  have hb0 : Below w.heap.size w (((w.alloc (.cells #[.int .i64 r.1, .int .i64 r.2.1, .int .i64 r.2.2.1, .int .i64 r.2.2.2.1, .int .i64 r.2.2.2.2, .slice A n c] 26)).alloc (.cells #[.int .i64 0, .int .i64 0, .int .i64 0, .int .i64 0, .int .i64 0, .slice none 0 0] 32)).alloc (.cells #[.int .i64 0, .int .i64 0, .int .i64 0, .int .i64 0, .int .i64 0, .slice none 0 0] 32)) := (((Below.refl _ _).alloc (Nat.le_refl _) _).alloc (by simp) _).alloc (by simp; omega) _
  obtain ⟨t1, t2, t3, t4⟩ := heap3 w (.cells #[.int .i64 r.1, .int .i64 r.2.1, .int .i64 r.2.2.1, .int .i64 r.2.2.2.1, .int .i64 r.2.2.2.2, .slice A n c] 26) (.cells #[.int .i64 0, .int .i64 0, .int .i64 0, .int .i64 0, .int .i64 0, .slice none 0 0] 32) (.cells #[.int .i64 0, .int .i64 0, .int .i64 0, .int .i64 0, .int .i64 0, .slice none 0 0] 32)
  have x5 : (((w.alloc (.cells #[.int .i64 r.1, .int .i64 r.2.1, .int .i64 r.2.2.1, .int .i64 r.2.2.2.1, .int .i64 r.2.2.2.2, .slice A n c] 26)).alloc (.cells #[.int .i64 0, .int .i64 0, .int .i64 0, .int .i64 0, .int .i64 0, .slice none 0 0] 32)).alloc (.cells #[.int .i64 0, .int .i64 0, .int .i64 0, .int .i64 0, .int .i64 0, .slice none 0 0] 32)).cell? ⟨w.heap.size, 5, none⟩ = some (.slice A n c) := by simp only [World.cell?, t1]; rfl
  have u0 : (((w.alloc (.cells #[.int .i64 r.1, .int .i64 r.2.1, .int .i64 r.2.2.1, .int .i64 r.2.2.2.1, .int .i64 r.2.2.2.2, .slice A n c] 26)).alloc (.cells #[.int .i64 0, .int .i64 0, .int .i64 0, .int .i64 0, .int .i64 0, .slice none 0 0] 32)).alloc (.cells #[.int .i64 0, .int .i64 0, .int .i64 0, .int .i64 0, .int .i64 0, .slice none 0 0] 32)).cell? ⟨w.heap.size + 1, 0, none⟩ = some (.int .i64 0) := by simp only [World.cell?, t2]; rfl
  have u1 : (((w.alloc (.cells #[.int .i64 r.1, .int .i64 r.2.1, .int .i64 r.2.2.1, .int .i64 r.2.2.2.1, .int .i64 r.2.2.2.2, .slice A n c] 26)).alloc (.cells #[.int .i64 0, .int .i64 0, .int .i64 0, .int .i64 0, .int .i64 0, .slice none 0 0] 32)).alloc (.cells #[.int .i64 0, .int .i64 0, .int .i64 0, .int .i64 0, .int .i64 0, .slice none 0 0] 32)).cell? ⟨w.heap.size + 1, 1, none⟩ = some (.int .i64 0) := by simp only [World.cell?, t2]; rfl
  have u2 : (((w.alloc (.cells #[.int .i64 r.1, .int .i64 r.2.1, .int .i64 r.2.2.1, .int .i64 r.2.2.2.1, .int .i64 r.2.2.2.2, .slice A n c] 26)).alloc (.cells #[.int .i64 0, .int .i64 0, .int .i64 0, .int .i64 0, .int .i64 0, .slice none 0 0] 32)).alloc (.cells #[.int .i64 0, .int .i64 0, .int .i64 0, .int .i64 0, .int .i64 0, .slice none 0 0] 32)).cell? ⟨w.heap.size + 1, 2, none⟩ = some (.int .i64 0) := by simp only [World.cell?, t2]; rfl
  have u3 : (((w.alloc (.cells #[.int .i64 r.1, .int .i64 r.2.1, .int .i64 r.2.2.1, .int .i64 r.2.2.2.1, .int .i64 r.2.2.2.2, .slice A n c] 26)).alloc (.cells #[.int .i64 0, .int .i64 0, .int .i64 0, .int .i64 0, .int .i64 0, .slice none 0 0] 32)).alloc (.cells #[.int .i64 0, .int .i64 0, .int .i64 0, .int .i64 0, .int .i64 0, .slice none 0 0] 32)).cell? ⟨w.heap.size + 1, 3, none⟩ = some (.int .i64 0) := by simp only [World.cell?, t2]; rfl
  have u4 : (((w.alloc (.cells #[.int .i64 r.1, .int .i64 r.2.1, .int .i64 r.2.2.1, .int .i64 r.2.2.2.1, .int .i64 r.2.2.2.2, .slice A n c] 26)).alloc (.cells #[.int .i64 0, .int .i64 0, .int .i64 0, .int .i64 0, .int .i64 0, .slice none 0 0] 32)).alloc (.cells #[.int .i64 0, .int .i64 0, .int .i64 0, .int .i64 0, .int .i64 0, .slice none 0 0] 32)).cell? ⟨w.heap.size + 1, 4, none⟩ = some (.int .i64 0) := by simp only [World.cell?, t2]; rfl
  have u5 : (((w.alloc (.cells #[.int .i64 r.1, .int .i64 r.2.1, .int .i64 r.2.2.1, .int .i64 r.2.2.2.1, .int .i64 r.2.2.2.2, .slice A n c] 26)).alloc (.cells #[.int .i64 0, .int .i64 0, .int .i64 0, .int .i64 0, .int .i64 0, .slice none 0 0] 32)).alloc (.cells #[.int .i64 0, .int .i64 0, .int .i64 0, .int .i64 0, .int .i64 0, .slice none 0 0] 32)).cell? ⟨w.heap.size + 1, 5, none⟩ = some (.slice none 0 0) := by simp only [World.cell?, t2]; rfl
  have v0 : (((w.alloc (.cells #[.int .i64 r.1, .int .i64 r.2.1, .int .i64 r.2.2.1, .int .i64 r.2.2.2.1, .int .i64 r.2.2.2.2, .slice A n c] 26)).alloc (.cells #[.int .i64 0, .int .i64 0, .int .i64 0, .int .i64 0, .int .i64 0, .slice none 0 0] 32)).alloc (.cells #[.int .i64 0, .int .i64 0, .int .i64 0, .int .i64 0, .int .i64 0, .slice none 0 0] 32)).cell? ⟨w.heap.size + 1 + 1, 0, none⟩ = some (.int .i64 0) := by simp only [World.cell?, t3]; rfl
  have v1 : (((w.alloc (.cells #[.int .i64 r.1, .int .i64 r.2.1, .int .i64 r.2.2.1, .int .i64 r.2.2.2.1, .int .i64 r.2.2.2.2, .slice A n c] 26)).alloc (.cells #[.int .i64 0, .int .i64 0, .int .i64 0, .int .i64 0, .int .i64 0, .slice none 0 0] 32)).alloc (.cells #[.int .i64 0, .int .i64 0, .int .i64 0, .int .i64 0, .int .i64 0, .slice none 0 0] 32)).cell? ⟨w.heap.size + 1 + 1, 1, none⟩ = some (.int .i64 0) := by simp only [World.cell?, t3]; rfl
  have v2 : (((w.alloc (.cells #[.int .i64 r.1, .int .i64 r.2.1, .int .i64 r.2.2.1, .int .i64 r.2.2.2.1, .int .i64 r.2.2.2.2, .slice A n c] 26)).alloc (.cells #[.int .i64 0, .int .i64 0, .int .i64 0, .int .i64 0, .int .i64 0, .slice none 0 0] 32)).alloc (.cells #[.int .i64 0, .int .i64 0, .int .i64 0, .int .i64 0, .int .i64 0, .slice none 0 0] 32)).cell? ⟨w.heap.size + 1 + 1, 2, none⟩ = some (.int .i64 0) := by simp only [World.cell?, t3]; rfl
  have v3 : (((w.alloc (.cells #[.int .i64 r.1, .int .i64 r.2.1, .int .i64 r.2.2.1, .int .i64 r.2.2.2.1, .int .i64 r.2.2.2.2, .slice A n c] 26)).alloc (.cells #[.int .i64 0, .int .i64 0, .int .i64 0, .int .i64 0, .int .i64 0, .slice none 0 0] 32)).alloc (.cells #[.int .i64 0, .int .i64 0, .int .i64 0, .int .i64 0, .int .i64 0, .slice none 0 0] 32)).cell? ⟨w.heap.size + 1 + 1, 3, none⟩ = some (.int .i64 0) := by simp only [World.cell?, t3]; rfl
  have v4 : (((w.alloc (.cells #[.int .i64 r.1, .int .i64 r.2.1, .int .i64 r.2.2.1, .int .i64 r.2.2.2.1, .int .i64 r.2.2.2.2, .slice A n c] 26)).alloc (.cells #[.int .i64 0, .int .i64 0, .int .i64 0, .int .i64 0, .int .i64 0, .slice none 0 0] 32)).alloc (.cells #[.int .i64 0, .int .i64 0, .int .i64 0, .int .i64 0, .int .i64 0, .slice none 0 0] 32)).cell? ⟨w.heap.size + 1 + 1, 4, none⟩ = some (.int .i64 0) := by simp only [World.cell?, t3]; rfl
  have v5 : (((w.alloc (.cells #[.int .i64 r.1, .int .i64 r.2.1, .int .i64 r.2.2.1, .int .i64 r.2.2.2.1, .int .i64 r.2.2.2.2, .slice A n c] 26)).alloc (.cells #[.int .i64 0, .int .i64 0, .int .i64 0, .int .i64 0, .int .i64 0, .slice none 0 0] 32)).alloc (.cells #[.int .i64 0, .int .i64 0, .int .i64 0, .int .i64 0, .int .i64 0, .slice none 0 0] 32)).cell? ⟨w.heap.size + 1 + 1, 5, none⟩ = some (.slice none 0 0) := by simp only [World.cell?, t3]; rfl
  have f0 : (((w.alloc (.cells #[.int .i64 r.1, .int .i64 r.2.1, .int .i64 r.2.2.1, .int .i64 r.2.2.2.1, .int .i64 r.2.2.2.2, .slice A n c] 26)).alloc (.cells #[.int .i64 0, .int .i64 0, .int .i64 0, .int .i64 0, .int .i64 0, .slice none 0 0] 32)).alloc (.cells #[.int .i64 0, .int .i64 0, .int .i64 0, .int .i64 0, .int .i64 0, .slice none 0 0] 32)).frozen? ⟨w.heap.size + 1, 0, none⟩ = false := by simp only [World.frozen?, t2]; simp
  have f1 : (((w.alloc (.cells #[.int .i64 r.1, .int .i64 r.2.1, .int .i64 r.2.2.1, .int .i64 r.2.2.2.1, .int .i64 r.2.2.2.2, .slice A n c] 26)).alloc (.cells #[.int .i64 0, .int .i64 0, .int .i64 0, .int .i64 0, .int .i64 0, .slice none 0 0] 32)).alloc (.cells #[.int .i64 0, .int .i64 0, .int .i64 0, .int .i64 0, .int .i64 0, .slice none 0 0] 32)).frozen? ⟨w.heap.size + 1, 1, none⟩ = false := by simp only [World.frozen?, t2]; simp
  have f2 : (((w.alloc (.cells #[.int .i64 r.1, .int .i64 r.2.1, .int .i64 r.2.2.1, .int .i64 r.2.2.2.1, .int .i64 r.2.2.2.2, .slice A n c] 26)).alloc (.cells #[.int .i64 0, .int .i64 0, .int .i64 0, .int .i64 0, .int .i64 0, .slice none 0 0] 32)).alloc (.cells #[.int .i64 0, .int .i64 0, .int .i64 0, .int .i64 0, .int .i64 0, .slice none 0 0] 32)).frozen? ⟨w.heap.size + 1, 2, none⟩ = false := by simp only [World.frozen?, t2]; simp
  have f3 : (((w.alloc (.cells #[.int .i64 r.1, .int .i64 r.2.1, .int .i64 r.2.2.1, .int .i64 r.2.2.2.1, .int .i64 r.2.2.2.2, .slice A n c] 26)).alloc (.cells #[.int .i64 0, .int .i64 0, .int .i64 0, .int .i64 0, .int .i64 0, .slice none 0 0] 32)).alloc (.cells #[.int .i64 0, .int .i64 0, .int .i64 0, .int .i64 0, .int .i64 0, .slice none 0 0] 32)).frozen? ⟨w.heap.size + 1, 3, none⟩ = false := by simp only [World.frozen?, t2]; simp
  have f4 : (((w.alloc (.cells #[.int .i64 r.1, .int .i64 r.2.1, .int .i64 r.2.2.1, .int .i64 r.2.2.2.1, .int .i64 r.2.2.2.2, .slice A n c] 26)).alloc (.cells #[.int .i64 0, .int .i64 0, .int .i64 0, .int .i64 0, .int .i64 0, .slice none 0 0] 32)).alloc (.cells #[.int .i64 0, .int .i64 0, .int .i64 0, .int .i64 0, .int .i64 0, .slice none 0 0] 32)).frozen? ⟨w.heap.size + 1, 4, none⟩ = false := by simp only [World.frozen?, t2]; simp
  have f5 : (((w.alloc (.cells #[.int .i64 r.1, .int .i64 r.2.1, .int .i64 r.2.2.1, .int .i64 r.2.2.2.1, .int .i64 r.2.2.2.2, .slice A n c] 26)).alloc (.cells #[.int .i64 0, .int .i64 0, .int .i64 0, .int .i64 0, .int .i64 0, .slice none 0 0] 32)).alloc (.cells #[.int .i64 0, .int .i64 0, .int .i64 0, .int .i64 0, .int .i64 0, .slice none 0 0] 32)).frozen? ⟨w.heap.size + 1, 5, none⟩ = false := by simp only [World.frozen?, t2]; simp
  have g0 : (((w.alloc (.cells #[.int .i64 r.1, .int .i64 r.2.1, .int .i64 r.2.2.1, .int .i64 r.2.2.2.1, .int .i64 r.2.2.2.2, .slice A n c] 26)).alloc (.cells #[.int .i64 0, .int .i64 0, .int .i64 0, .int .i64 0, .int .i64 0, .slice none 0 0] 32)).alloc (.cells #[.int .i64 0, .int .i64 0, .int .i64 0, .int .i64 0, .int .i64 0, .slice none 0 0] 32)).frozen? ⟨w.heap.size + 1 + 1, 0, none⟩ = false := by simp only [World.frozen?, t3]; simp
  have g1 : (((w.alloc (.cells #[.int .i64 r.1, .int .i64 r.2.1, .int .i64 r.2.2.1, .int .i64 r.2.2.2.1, .int .i64 r.2.2.2.2, .slice A n c] 26)).alloc (.cells #[.int .i64 0, .int .i64 0, .int .i64 0, .int .i64 0, .int .i64 0, .slice none 0 0] 32)).alloc (.cells #[.int .i64 0, .int .i64 0, .int .i64 0, .int .i64 0, .int .i64 0, .slice none 0 0] 32)).frozen? ⟨w.heap.size + 1 + 1, 1, none⟩ = false := by simp only [World.frozen?, t3]; simp
  have g2 : (((w.alloc (.cells #[.int .i64 r.1, .int .i64 r.2.1, .int .i64 r.2.2.1, .int .i64 r.2.2.2.1, .int .i64 r.2.2.2.2, .slice A n c] 26)).alloc (.cells #[.int .i64 0, .int .i64 0, .int .i64 0, .int .i64 0, .int .i64 0, .slice none 0 0] 32)).alloc (.cells #[.int .i64 0, .int .i64 0, .int .i64 0, .int .i64 0, .int .i64 0, .slice none 0 0] 32)).frozen? ⟨w.heap.size + 1 + 1, 2, none⟩ = false := by simp only [World.frozen?, t3]; simp
  have g3 : (((w.alloc (.cells #[.int .i64 r.1, .int .i64 r.2.1, .int .i64 r.2.2.1, .int .i64 r.2.2.2.1, .int .i64 r.2.2.2.2, .slice A n c] 26)).alloc (.cells #[.int .i64 0, .int .i64 0, .int .i64 0, .int .i64 0, .int .i64 0, .slice none 0 0] 32)).alloc (.cells #[.int .i64 0, .int .i64 0, .int .i64 0, .int .i64 0, .int .i64 0, .slice none 0 0] 32)).frozen? ⟨w.heap.size + 1 + 1, 3, none⟩ = false := by simp only [World.frozen?, t3]; simp
  have g4 : (((w.alloc (.cells #[.int .i64 r.1, .int .i64 r.2.1, .int .i64 r.2.2.1, .int .i64 r.2.2.2.1, .int .i64 r.2.2.2.2, .slice A n c] 26)).alloc (.cells #[.int .i64 0, .int .i64 0, .int .i64 0, .int .i64 0, .int .i64 0, .slice none 0 0] 32)).alloc (.cells #[.int .i64 0, .int .i64 0, .int .i64 0, .int .i64 0, .int .i64 0, .slice none 0 0] 32)).frozen? ⟨w.heap.size + 1 + 1, 4, none⟩ = false := by simp only [World.frozen?, t3]; simp
  have g5 : (((w.alloc (.cells #[.int .i64 r.1, .int .i64 r.2.1, .int .i64 r.2.2.1, .int .i64 r.2.2.2.1, .int .i64 r.2.2.2.2, .slice A n c] 26)).alloc (.cells #[.int .i64 0, .int .i64 0, .int .i64 0, .int .i64 0, .int .i64 0, .slice none 0 0] 32)).alloc (.cells #[.int .i64 0, .int .i64 0, .int .i64 0, .int .i64 0, .int .i64 0, .slice none 0 0] 32)).frozen? ⟨w.heap.size + 1 + 1, 5, none⟩ = false := by simp only [World.frozen?, t3]; simp
  have hl : w.heap.size + 1 + 1 < (((w.alloc (.cells #[.int .i64 r.1, .int .i64 r.2.1, .int .i64 r.2.2.1, .int .i64 r.2.2.2.1, .int .i64 r.2.2.2.2, .slice A n c] 26)).alloc (.cells #[.int .i64 0, .int .i64 0, .int .i64 0, .int .i64 0, .int .i64 0, .slice none 0 0] 32)).alloc (.cells #[.int .i64 0, .int .i64 0, .int .i64 0, .int .i64 0, .int .i64 0, .slice none 0 0] 32)).heap.size := by rw [t4]; omega
  clear t1 t2 t3 t4
  go_enter Try.func15, Try.ntmps15
  go_wp2_with fail
  generalize (((w.alloc (.cells #[.int .i64 r.1, .int .i64 r.2.1, .int .i64 r.2.2.1, .int .i64 r.2.2.2.1, .int .i64 r.2.2.2.2, .slice A n c] 26)).alloc (.cells #[.int .i64 0, .int .i64 0, .int .i64 0, .int .i64 0, .int .i64 0, .slice none 0 0] 32)).alloc (.cells #[.int .i64 0, .int .i64 0, .int .i64 0, .int .i64 0, .int .i64 0, .slice none 0 0] 32)) = w3 at *
  refine (toReq_c r w3).mono ?_
  rintro e w4 ⟨rfl, hb4⟩
  have hB4 := hb0.trans (hb4.mono hb0.size)
  have x5 := keepc hb4 x5
  have u0 := keepc hb4 u0
  have u1 := keepc hb4 u1
  have u2 := keepc hb4 u2
  have u3 := keepc hb4 u3
  have u4 := keepc hb4 u4
  have u5 := keepc hb4 u5
  have v0 := keepc hb4 v0
  have v1 := keepc hb4 v1
  have v2 := keepc hb4 v2
  have v3 := keepc hb4 v3
  have v4 := keepc hb4 v4
  have v5 := keepc hb4 v5
  have f0 := keepf hb4 (by omega) f0
  have f1 := keepf hb4 (by omega) f1
  have f2 := keepf hb4 (by omega) f2
  have f3 := keepf hb4 (by omega) f3
  have f4 := keepf hb4 (by omega) f4
  have f5 := keepf hb4 (by omega) f5
  have g0 := keepf hb4 (by omega) g0
  have g1 := keepf hb4 (by omega) g1
  have g2 := keepf hb4 (by omega) g2
  have g3 := keepf hb4 (by omega) g3
  have g4 := keepf hb4 (by omega) g4
  have g5 := keepf hb4 (by omega) g5
  have hl4 : w.heap.size + 1 + 1 < w4.heap.size := lt_of_cell v0
  have x5 : (((((w4.setCell ⟨w.heap.size + 1 + 1, 0, none⟩ (.int .i64 r.1)).setCell ⟨w.heap.size + 1 + 1, 1, none⟩ (.int .i64 r.2.1)).setCell ⟨w.heap.size + 1 + 1, 2, none⟩ (.int .i64 r.2.2.1)).setCell ⟨w.heap.size + 1 + 1, 3, none⟩ (.int .i64 r.2.2.2.1)).setCell ⟨w.heap.size + 1 + 1, 4, none⟩ (.int .i64 r.2.2.2.2)).cell? ⟨w.heap.size, 5, none⟩ = some (.slice A n c) := by go_simp
  have u0 : (((((w4.setCell ⟨w.heap.size + 1 + 1, 0, none⟩ (.int .i64 r.1)).setCell ⟨w.heap.size + 1 + 1, 1, none⟩ (.int .i64 r.2.1)).setCell ⟨w.heap.size + 1 + 1, 2, none⟩ (.int .i64 r.2.2.1)).setCell ⟨w.heap.size + 1 + 1, 3, none⟩ (.int .i64 r.2.2.2.1)).setCell ⟨w.heap.size + 1 + 1, 4, none⟩ (.int .i64 r.2.2.2.2)).cell? ⟨w.heap.size + 1, 0, none⟩ = some (.int .i64 0) := by go_simp
  have u1 : (((((w4.setCell ⟨w.heap.size + 1 + 1, 0, none⟩ (.int .i64 r.1)).setCell ⟨w.heap.size + 1 + 1, 1, none⟩ (.int .i64 r.2.1)).setCell ⟨w.heap.size + 1 + 1, 2, none⟩ (.int .i64 r.2.2.1)).setCell ⟨w.heap.size + 1 + 1, 3, none⟩ (.int .i64 r.2.2.2.1)).setCell ⟨w.heap.size + 1 + 1, 4, none⟩ (.int .i64 r.2.2.2.2)).cell? ⟨w.heap.size + 1, 1, none⟩ = some (.int .i64 0) := by go_simp
  have u2 : (((((w4.setCell ⟨w.heap.size + 1 + 1, 0, none⟩ (.int .i64 r.1)).setCell ⟨w.heap.size + 1 + 1, 1, none⟩ (.int .i64 r.2.1)).setCell ⟨w.heap.size + 1 + 1, 2, none⟩ (.int .i64 r.2.2.1)).setCell ⟨w.heap.size + 1 + 1, 3, none⟩ (.int .i64 r.2.2.2.1)).setCell ⟨w.heap.size + 1 + 1, 4, none⟩ (.int .i64 r.2.2.2.2)).cell? ⟨w.heap.size + 1, 2, none⟩ = some (.int .i64 0) := by go_simp
  have u3 : (((((w4.setCell ⟨w.heap.size + 1 + 1, 0, none⟩ (.int .i64 r.1)).setCell ⟨w.heap.size + 1 + 1, 1, none⟩ (.int .i64 r.2.1)).setCell ⟨w.heap.size + 1 + 1, 2, none⟩ (.int .i64 r.2.2.1)).setCell ⟨w.heap.size + 1 + 1, 3, none⟩ (.int .i64 r.2.2.2.1)).setCell ⟨w.heap.size + 1 + 1, 4, none⟩ (.int .i64 r.2.2.2.2)).cell? ⟨w.heap.size + 1, 3, none⟩ = some (.int .i64 0) := by go_simp
  have u4 : (((((w4.setCell ⟨w.heap.size + 1 + 1, 0, none⟩ (.int .i64 r.1)).setCell ⟨w.heap.size + 1 + 1, 1, none⟩ (.int .i64 r.2.1)).setCell ⟨w.heap.size + 1 + 1, 2, none⟩ (.int .i64 r.2.2.1)).setCell ⟨w.heap.size + 1 + 1, 3, none⟩ (.int .i64 r.2.2.2.1)).setCell ⟨w.heap.size + 1 + 1, 4, none⟩ (.int .i64 r.2.2.2.2)).cell? ⟨w.heap.size + 1, 4, none⟩ = some (.int .i64 0) := by go_simp
  have u5 : (((((w4.setCell ⟨w.heap.size + 1 + 1, 0, none⟩ (.int .i64 r.1)).setCell ⟨w.heap.size + 1 + 1, 1, none⟩ (.int .i64 r.2.1)).setCell ⟨w.heap.size + 1 + 1, 2, none⟩ (.int .i64 r.2.2.1)).setCell ⟨w.heap.size + 1 + 1, 3, none⟩ (.int .i64 r.2.2.2.1)).setCell ⟨w.heap.size + 1 + 1, 4, none⟩ (.int .i64 r.2.2.2.2)).cell? ⟨w.heap.size + 1, 5, none⟩ = some (.slice none 0 0) := by go_simp
  have v0 : (((((w4.setCell ⟨w.heap.size + 1 + 1, 0, none⟩ (.int .i64 r.1)).setCell ⟨w.heap.size + 1 + 1, 1, none⟩ (.int .i64 r.2.1)).setCell ⟨w.heap.size + 1 + 1, 2, none⟩ (.int .i64 r.2.2.1)).setCell ⟨w.heap.size + 1 + 1, 3, none⟩ (.int .i64 r.2.2.2.1)).setCell ⟨w.heap.size + 1 + 1, 4, none⟩ (.int .i64 r.2.2.2.2)).cell? ⟨w.heap.size + 1 + 1, 0, none⟩ = some (.int .i64 r.1) := by go_simp
  have v1 : (((((w4.setCell ⟨w.heap.size + 1 + 1, 0, none⟩ (.int .i64 r.1)).setCell ⟨w.heap.size + 1 + 1, 1, none⟩ (.int .i64 r.2.1)).setCell ⟨w.heap.size + 1 + 1, 2, none⟩ (.int .i64 r.2.2.1)).setCell ⟨w.heap.size + 1 + 1, 3, none⟩ (.int .i64 r.2.2.2.1)).setCell ⟨w.heap.size + 1 + 1, 4, none⟩ (.int .i64 r.2.2.2.2)).cell? ⟨w.heap.size + 1 + 1, 1, none⟩ = some (.int .i64 r.2.1) := by go_simp
  have v2 : (((((w4.setCell ⟨w.heap.size + 1 + 1, 0, none⟩ (.int .i64 r.1)).setCell ⟨w.heap.size + 1 + 1, 1, none⟩ (.int .i64 r.2.1)).setCell ⟨w.heap.size + 1 + 1, 2, none⟩ (.int .i64 r.2.2.1)).setCell ⟨w.heap.size + 1 + 1, 3, none⟩ (.int .i64 r.2.2.2.1)).setCell ⟨w.heap.size + 1 + 1, 4, none⟩ (.int .i64 r.2.2.2.2)).cell? ⟨w.heap.size + 1 + 1, 2, none⟩ = some (.int .i64 r.2.2.1) := by go_simp
  have v3 : (((((w4.setCell ⟨w.heap.size + 1 + 1, 0, none⟩ (.int .i64 r.1)).setCell ⟨w.heap.size + 1 + 1, 1, none⟩ (.int .i64 r.2.1)).setCell ⟨w.heap.size + 1 + 1, 2, none⟩ (.int .i64 r.2.2.1)).setCell ⟨w.heap.size + 1 + 1, 3, none⟩ (.int .i64 r.2.2.2.1)).setCell ⟨w.heap.size + 1 + 1, 4, none⟩ (.int .i64 r.2.2.2.2)).cell? ⟨w.heap.size + 1 + 1, 3, none⟩ = some (.int .i64 r.2.2.2.1) := by go_simp
  have v4 : (((((w4.setCell ⟨w.heap.size + 1 + 1, 0, none⟩ (.int .i64 r.1)).setCell ⟨w.heap.size + 1 + 1, 1, none⟩ (.int .i64 r.2.1)).setCell ⟨w.heap.size + 1 + 1, 2, none⟩ (.int .i64 r.2.2.1)).setCell ⟨w.heap.size + 1 + 1, 3, none⟩ (.int .i64 r.2.2.2.1)).setCell ⟨w.heap.size + 1 + 1, 4, none⟩ (.int .i64 r.2.2.2.2)).cell? ⟨w.heap.size + 1 + 1, 4, none⟩ = some (.int .i64 r.2.2.2.2) := by go_simp
  have v5 : (((((w4.setCell ⟨w.heap.size + 1 + 1, 0, none⟩ (.int .i64 r.1)).setCell ⟨w.heap.size + 1 + 1, 1, none⟩ (.int .i64 r.2.1)).setCell ⟨w.heap.size + 1 + 1, 2, none⟩ (.int .i64 r.2.2.1)).setCell ⟨w.heap.size + 1 + 1, 3, none⟩ (.int .i64 r.2.2.2.1)).setCell ⟨w.heap.size + 1 + 1, 4, none⟩ (.int .i64 r.2.2.2.2)).cell? ⟨w.heap.size + 1 + 1, 5, none⟩ = some (.slice none 0 0) := by go_simp
  have f0 : (((((w4.setCell ⟨w.heap.size + 1 + 1, 0, none⟩ (.int .i64 r.1)).setCell ⟨w.heap.size + 1 + 1, 1, none⟩ (.int .i64 r.2.1)).setCell ⟨w.heap.size + 1 + 1, 2, none⟩ (.int .i64 r.2.2.1)).setCell ⟨w.heap.size + 1 + 1, 3, none⟩ (.int .i64 r.2.2.2.1)).setCell ⟨w.heap.size + 1 + 1, 4, none⟩ (.int .i64 r.2.2.2.2)).frozen? ⟨w.heap.size + 1, 0, none⟩ = false := by go_simp
  have f1 : (((((w4.setCell ⟨w.heap.size + 1 + 1, 0, none⟩ (.int .i64 r.1)).setCell ⟨w.heap.size + 1 + 1, 1, none⟩ (.int .i64 r.2.1)).setCell ⟨w.heap.size + 1 + 1, 2, none⟩ (.int .i64 r.2.2.1)).setCell ⟨w.heap.size + 1 + 1, 3, none⟩ (.int .i64 r.2.2.2.1)).setCell ⟨w.heap.size + 1 + 1, 4, none⟩ (.int .i64 r.2.2.2.2)).frozen? ⟨w.heap.size + 1, 1, none⟩ = false := by go_simp
  have f2 : (((((w4.setCell ⟨w.heap.size + 1 + 1, 0, none⟩ (.int .i64 r.1)).setCell ⟨w.heap.size + 1 + 1, 1, none⟩ (.int .i64 r.2.1)).setCell ⟨w.heap.size + 1 + 1, 2, none⟩ (.int .i64 r.2.2.1)).setCell ⟨w.heap.size + 1 + 1, 3, none⟩ (.int .i64 r.2.2.2.1)).setCell ⟨w.heap.size + 1 + 1, 4, none⟩ (.int .i64 r.2.2.2.2)).frozen? ⟨w.heap.size + 1, 2, none⟩ = false := by go_simp
  have f3 : (((((w4.setCell ⟨w.heap.size + 1 + 1, 0, none⟩ (.int .i64 r.1)).setCell ⟨w.heap.size + 1 + 1, 1, none⟩ (.int .i64 r.2.1)).setCell ⟨w.heap.size + 1 + 1, 2, none⟩ (.int .i64 r.2.2.1)).setCell ⟨w.heap.size + 1 + 1, 3, none⟩ (.int .i64 r.2.2.2.1)).setCell ⟨w.heap.size + 1 + 1, 4, none⟩ (.int .i64 r.2.2.2.2)).frozen? ⟨w.heap.size + 1, 3, none⟩ = false := by go_simp
  have f4 : (((((w4.setCell ⟨w.heap.size + 1 + 1, 0, none⟩ (.int .i64 r.1)).setCell ⟨w.heap.size + 1 + 1, 1, none⟩ (.int .i64 r.2.1)).setCell ⟨w.heap.size + 1 + 1, 2, none⟩ (.int .i64 r.2.2.1)).setCell ⟨w.heap.size + 1 + 1, 3, none⟩ (.int .i64 r.2.2.2.1)).setCell ⟨w.heap.size + 1 + 1, 4, none⟩ (.int .i64 r.2.2.2.2)).frozen? ⟨w.heap.size + 1, 4, none⟩ = false := by go_simp
  have f5 : (((((w4.setCell ⟨w.heap.size + 1 + 1, 0, none⟩ (.int .i64 r.1)).setCell ⟨w.heap.size + 1 + 1, 1, none⟩ (.int .i64 r.2.1)).setCell ⟨w.heap.size + 1 + 1, 2, none⟩ (.int .i64 r.2.2.1)).setCell ⟨w.heap.size + 1 + 1, 3, none⟩ (.int .i64 r.2.2.2.1)).setCell ⟨w.heap.size + 1 + 1, 4, none⟩ (.int .i64 r.2.2.2.2)).frozen? ⟨w.heap.size + 1, 5, none⟩ = false := by go_simp
  have g0 : (((((w4.setCell ⟨w.heap.size + 1 + 1, 0, none⟩ (.int .i64 r.1)).setCell ⟨w.heap.size + 1 + 1, 1, none⟩ (.int .i64 r.2.1)).setCell ⟨w.heap.size + 1 + 1, 2, none⟩ (.int .i64 r.2.2.1)).setCell ⟨w.heap.size + 1 + 1, 3, none⟩ (.int .i64 r.2.2.2.1)).setCell ⟨w.heap.size + 1 + 1, 4, none⟩ (.int .i64 r.2.2.2.2)).frozen? ⟨w.heap.size + 1 + 1, 0, none⟩ = false := by go_simp
  have g1 : (((((w4.setCell ⟨w.heap.size + 1 + 1, 0, none⟩ (.int .i64 r.1)).setCell ⟨w.heap.size + 1 + 1, 1, none⟩ (.int .i64 r.2.1)).setCell ⟨w.heap.size + 1 + 1, 2, none⟩ (.int .i64 r.2.2.1)).setCell ⟨w.heap.size + 1 + 1, 3, none⟩ (.int .i64 r.2.2.2.1)).setCell ⟨w.heap.size + 1 + 1, 4, none⟩ (.int .i64 r.2.2.2.2)).frozen? ⟨w.heap.size + 1 + 1, 1, none⟩ = false := by go_simp
  have g2 : (((((w4.setCell ⟨w.heap.size + 1 + 1, 0, none⟩ (.int .i64 r.1)).setCell ⟨w.heap.size + 1 + 1, 1, none⟩ (.int .i64 r.2.1)).setCell ⟨w.heap.size + 1 + 1, 2, none⟩ (.int .i64 r.2.2.1)).setCell ⟨w.heap.size + 1 + 1, 3, none⟩ (.int .i64 r.2.2.2.1)).setCell ⟨w.heap.size + 1 + 1, 4, none⟩ (.int .i64 r.2.2.2.2)).frozen? ⟨w.heap.size + 1 + 1, 2, none⟩ = false := by go_simp
  have g3 : (((((w4.setCell ⟨w.heap.size + 1 + 1, 0, none⟩ (.int .i64 r.1)).setCell ⟨w.heap.size + 1 + 1, 1, none⟩ (.int .i64 r.2.1)).setCell ⟨w.heap.size + 1 + 1, 2, none⟩ (.int .i64 r.2.2.1)).setCell ⟨w.heap.size + 1 + 1, 3, none⟩ (.int .i64 r.2.2.2.1)).setCell ⟨w.heap.size + 1 + 1, 4, none⟩ (.int .i64 r.2.2.2.2)).frozen? ⟨w.heap.size + 1 + 1, 3, none⟩ = false := by go_simp
  have g4 : (((((w4.setCell ⟨w.heap.size + 1 + 1, 0, none⟩ (.int .i64 r.1)).setCell ⟨w.heap.size + 1 + 1, 1, none⟩ (.int .i64 r.2.1)).setCell ⟨w.heap.size + 1 + 1, 2, none⟩ (.int .i64 r.2.2.1)).setCell ⟨w.heap.size + 1 + 1, 3, none⟩ (.int .i64 r.2.2.2.1)).setCell ⟨w.heap.size + 1 + 1, 4, none⟩ (.int .i64 r.2.2.2.2)).frozen? ⟨w.heap.size + 1 + 1, 4, none⟩ = false := by go_simp
  have g5 : (((((w4.setCell ⟨w.heap.size + 1 + 1, 0, none⟩ (.int .i64 r.1)).setCell ⟨w.heap.size + 1 + 1, 1, none⟩ (.int .i64 r.2.1)).setCell ⟨w.heap.size + 1 + 1, 2, none⟩ (.int .i64 r.2.2.1)).setCell ⟨w.heap.size + 1 + 1, 3, none⟩ (.int .i64 r.2.2.2.1)).setCell ⟨w.heap.size + 1 + 1, 4, none⟩ (.int .i64 r.2.2.2.2)).frozen? ⟨w.heap.size + 1 + 1, 5, none⟩ = false := by go_simp
  have hb5 : Below w.heap.size w4 (((((w4.setCell ⟨w.heap.size + 1 + 1, 0, none⟩ (.int .i64 r.1)).setCell ⟨w.heap.size + 1 + 1, 1, none⟩ (.int .i64 r.2.1)).setCell ⟨w.heap.size + 1 + 1, 2, none⟩ (.int .i64 r.2.2.1)).setCell ⟨w.heap.size + 1 + 1, 3, none⟩ (.int .i64 r.2.2.2.1)).setCell ⟨w.heap.size + 1 + 1, 4, none⟩ (.int .i64 r.2.2.2.2)) := (((((Below.refl _ _).setCell (by simp; omega) _).setCell (by simp; omega) _).setCell (by simp; omega) _).setCell (by simp; omega) _).setCell (by simp; omega) _
  have hB5 := hB4.trans hb5
  have hl5 : w.heap.size + 1 + 1 < (((((w4.setCell ⟨w.heap.size + 1 + 1, 0, none⟩ (.int .i64 r.1)).setCell ⟨w.heap.size + 1 + 1, 1, none⟩ (.int .i64 r.2.1)).setCell ⟨w.heap.size + 1 + 1, 2, none⟩ (.int .i64 r.2.2.1)).setCell ⟨w.heap.size + 1 + 1, 3, none⟩ (.int .i64 r.2.2.2.1)).setCell ⟨w.heap.size + 1 + 1, 4, none⟩ (.int .i64 r.2.2.2.2)).heap.size := by simpa using hl4
  go_wp2_with fail
  generalize (((((w4.setCell ⟨w.heap.size + 1 + 1, 0, none⟩ (.int .i64 r.1)).setCell ⟨w.heap.size + 1 + 1, 1, none⟩ (.int .i64 r.2.1)).setCell ⟨w.heap.size + 1 + 1, 2, none⟩ (.int .i64 r.2.2.1)).setCell ⟨w.heap.size + 1 + 1, 3, none⟩ (.int .i64 r.2.2.2.1)).setCell ⟨w.heap.size + 1 + 1, 4, none⟩ (.int .i64 r.2.2.2.2)) = w5 at *
  refine (toReplyS_c A n c lo hi xs w5 hn'.out hb (hs.below hB5 hhi) (Nat.le_trans hhi hB5.size)).mono ?_
  rintro e w6 ⟨v6, rfl, ho6, hb6⟩
  have hB6 := hB5.trans (hb6.mono hB5.size)
  obtain ⟨A6, c6, rfl, h61, h62, _⟩ := ho6.form
  have u0 := keepc hb6 u0
  have u1 := keepc hb6 u1
  have u2 := keepc hb6 u2
  have u3 := keepc hb6 u3
  have u4 := keepc hb6 u4
  have u5 := keepc hb6 u5
  have v0 := keepc hb6 v0
  have v1 := keepc hb6 v1
  have v2 := keepc hb6 v2
  have v3 := keepc hb6 v3
  have v4 := keepc hb6 v4
  have v5 := keepc hb6 v5
  have f0 := keepf hb6 (by omega) f0
  have f1 := keepf hb6 (by omega) f1
  have f2 := keepf hb6 (by omega) f2
  have f3 := keepf hb6 (by omega) f3
  have f4 := keepf hb6 (by omega) f4
  have f5 := keepf hb6 (by omega) f5
  have g0 := keepf hb6 (by omega) g0
  have g1 := keepf hb6 (by omega) g1
  have g2 := keepf hb6 (by omega) g2
  have g3 := keepf hb6 (by omega) g3
  have g4 := keepf hb6 (by omega) g4
  have g5 := keepf hb6 (by omega) g5
  have ho6' := ho6.mono hB5.size
  have hne : ∀ b, (Value.slice A6 xs.length c6).ownBlock = some b → b ≠ w.heap.size + 1 ∧ b ≠ w.heap.size + 1 + 1 := fun b hb => by have := (ho6.lt b hb).1; omega
  go_wp2
  refine bodyPost_ret (v := .agg #[.int .i64 r.1, .int .i64 r.2.1, .int .i64 r.2.2.1, .int .i64 r.2.2.2.1, .int .i64 r.2.2.2.2, .slice A6 xs.length c6]) (by simp [results, Try.results15, go_sem, u0, u1, u2, u3, u4, u5, v5]) rfl ⟨A6, c6, rfl, ?_, ?_⟩
  · exact ho6'.keep (fun b hb => by
      obtain ⟨h1, h2⟩ := hne b hb
      exact (((((((Below.heap_setCell _ ⟨_, 5, none⟩ _ b h1).trans (Below.heap_setCell _ ⟨_, 4, none⟩ _ b h1)).trans (Below.heap_setCell _ ⟨_, 3, none⟩ _ b h1)).trans (Below.heap_setCell _ ⟨_, 2, none⟩ _ b h1)).trans (Below.heap_setCell _ ⟨_, 1, none⟩ _ b h1)).trans (Below.heap_setCell _ ⟨_, 0, none⟩ _ b h1)).trans (Below.heap_setCell _ ⟨_, 5, none⟩ _ b h2)))
  · exact hB6.trans (((((((Below.refl _ _).setCell (by simp; omega) _).setCell (by simp) _).setCell (by simp) _).setCell (by simp) _).setCell (by simp) _).setCell (by simp) _ |>.setCell (by simp) _)
end Go.Proofs.Ytchofialljhojaa
