/-
  'PlayerHear' in both packages: what it answers.
-/
import Derived.Test.YtchofialljhojaaGJ
import Derived.Test.YtchofialljhojaaGE
import Derived.Test.YtchofialljhojaaDR
namespace Go.Proofs.Ytchofialljhojaa
open Go.RowKit Rg
set_option linter.unusedVariables false
set_option linter.unusedSimpArgs false

/-- What 'PlayerHear' answers. -/
theorem okPl_from {r : ReqV} {xs : List ReplyT} (h : okPl r xs) {i : Nat} (hi : i < xs.length) : okRp xs[i] = true ∧ xs[i].2.1 = r.2.1 ∧ ∀ j (hj : j < i), ¬ xs[j].1 = xs[i].1 := by
  obtain ⟨_, hf⟩ := h.1 i hi
  simp only [fitsL, Bool.and_eq_true, Bool.not_eq_true', beq_iff_eq] at hf
  refine ⟨hf.1, hf.2.1, fun j hj he => ?_⟩
  rw [hasFrom_yes (by omega) hj he] at hf
  exact absurd hf.2.2 (by simp)
theorem okRp_from {t : ReplyT} (h : okRp t = true) : 0 ≤ t.1 ∧ t.1 ≤ 3 := by
  simp only [okRp, Bool.and_eq_true, inB, decide_eq_true_eq] at h
  exact h.1
theorem okPl_len {r : ReqV} {xs : List ReplyT} (h : okPl r xs) : xs.length ≤ 4 := by
  rcases Nat.lt_or_ge 4 xs.length with h5 | h5
  · exfalso
    obtain ⟨a0, _, _⟩ := okPl_from h (i := 0) (by omega)
    obtain ⟨a1, _, b1⟩ := okPl_from h (i := 1) (by omega)
    obtain ⟨a2, _, b2⟩ := okPl_from h (i := 2) (by omega)
    obtain ⟨a3, _, b3⟩ := okPl_from h (i := 3) (by omega)
    obtain ⟨a4, _, b4⟩ := okPl_from h (i := 4) (by omega)
    have c0 := okRp_from a0
    have c1 := okRp_from a1
    have c2 := okRp_from a2
    have c3 := okRp_from a3
    have c4 := okRp_from a4
    have d10 := b1 0 (by omega)
    have d20 := b2 0 (by omega)
    have d21 := b2 1 (by omega)
    have d30 := b3 0 (by omega)
    have d31 := b3 1 (by omega)
    have d32 := b3 2 (by omega)
    have d40 := b4 0 (by omega)
    have d41 := b4 1 (by omega)
    have d42 := b4 2 (by omega)
    have d43 := b4 3 (by omega)
    omega
  · exact h5
def hearF (r : ReqV) (xs : List ReplyT) (t : ReplyT) (b : Bool) : (ReqV × List ReplyT) × Bool := if b = true then ((r, xs ++ [t]), true) else ((r, xs), false)
def hearL (r : ReqV) (xs : List ReplyT) (t : ReplyT) : (ReqV × List ReplyT) × Bool := if okPl r xs then hearF r xs t (fitsL r xs t) else (((0, 0, 0, 0, 0), []), false)
theorem Own.cellsAt {α : Type} {enc : α → List Value} {sz : Nat} {e : TypeId} {w : World} {lo : Nat} {v : Value} {xs : List α} (h : Own enc sz e w lo v xs) {k : Nat} (hk : v.ownBlock = some k) : ∃ cur, w.heap[k]? = some (.cells cur e (0, 0)) := by
  rcases h with ⟨rfl, _⟩ | ⟨g, cap, cur, rfl, hg, hh, _⟩
  · simp [Value.ownBlock] at hk
  · simp [Value.ownBlock] at hk
    subst hk
    exact ⟨cur, hh⟩
theorem frozen_blk {w w' : World} {b j : Nat} (h : w'.heap[b]? = w.heap[b]?) : w'.frozen? ⟨b, j, none⟩ = w.frozen? ⟨b, j, none⟩ := by simp [World.frozen?, h]
theorem hearL_not {r : ReqV} {xs : List ReplyT} {t : ReplyT} (h : decide (okPl r xs) = false) : hearL r xs t = (((0, 0, 0, 0, 0), []), false) := by
  simp at h; simp [hearL, h]
theorem hearL_ok {r : ReqV} {xs : List ReplyT} {t : ReplyT} (h : decide (okPl r xs) = true) : hearL r xs t = hearF r xs t (fitsL r xs t) := by
  simp at h; simp [hearL, h]

set_option maxRecDepth 100000 in
set_option maxHeartbeats 4000000 in
theorem PlayerHear_c (r : ReqV) (A : Option Addr) (n c lo hi : Nat) (xs : List ReplyT) (t : ReplyT) (w : World) (hn : n = xs.length) (hb : n ≤ 1048576) (hc : n ≤ c) (hc2 : c ≤ maxLen) (hs : Sl encReply 4 w lo hi A xs) (hhi : hi ≤ w.heap.size) :
    Calls Try.prog 23 #[.agg #[.int .i64 r.1, .int .i64 r.2.1, .int .i64 r.2.2.1, .int .i64 r.2.2.2.1, .int .i64 r.2.2.2.2, .slice A n c], .agg #[.int .i64 t.1, .int .i64 t.2.1, .int .i64 t.2.2.1, .int .i64 t.2.2.2]] w fun e w' => ∃ r' A' n' c' b, e = .returned (.tuple #[.agg #[.int .i64 r'.1, .int .i64 r'.2.1, .int .i64 r'.2.2.1, .int .i64 r'.2.2.2.1, .int .i64 r'.2.2.2.2, .slice A' n' c'], .bool b]) ∧ Own encReply 4 37 w' w.heap.size (.slice A' n' c') (hearL r xs t).1.2 ∧ n' = (hearL r xs t).1.2.length ∧ r' = (hearL r xs t).1.1 ∧ b = (hearL r xs t).2 ∧ Below w.heap.size w w' := by
  have hn' := hide hn
  clear hn
  have hb0 : Below w.heap.size w (((w.alloc (.cells #[.int .i64 r.1, .int .i64 r.2.1, .int .i64 r.2.2.1, .int .i64 r.2.2.2.1, .int .i64 r.2.2.2.2, .slice A n c] 32)).alloc (.cells #[.int .i64 t.1, .int .i64 t.2.1, .int .i64 t.2.2.1, .int .i64 t.2.2.2] 37)).alloc (.cells #[.int .i64 0, .int .i64 0, .int .i64 0, .int .i64 0, .int .i64 0, .slice none 0 0] 32)) := (((Below.refl _ _).alloc (Nat.le_refl _) _).alloc (by simp) _).alloc (by simp; omega) _
  obtain ⟨g1, g2, g3, g4⟩ := heap3 w (.cells #[.int .i64 r.1, .int .i64 r.2.1, .int .i64 r.2.2.1, .int .i64 r.2.2.2.1, .int .i64 r.2.2.2.2, .slice A n c] 32) (.cells #[.int .i64 t.1, .int .i64 t.2.1, .int .i64 t.2.2.1, .int .i64 t.2.2.2] 37) (.cells #[.int .i64 0, .int .i64 0, .int .i64 0, .int .i64 0, .int .i64 0, .slice none 0 0] 32)
  have x0 : (((w.alloc (.cells #[.int .i64 r.1, .int .i64 r.2.1, .int .i64 r.2.2.1, .int .i64 r.2.2.2.1, .int .i64 r.2.2.2.2, .slice A n c] 32)).alloc (.cells #[.int .i64 t.1, .int .i64 t.2.1, .int .i64 t.2.2.1, .int .i64 t.2.2.2] 37)).alloc (.cells #[.int .i64 0, .int .i64 0, .int .i64 0, .int .i64 0, .int .i64 0, .slice none 0 0] 32)).cell? ⟨w.heap.size, 0, none⟩ = some (.int .i64 r.1) := by simp only [World.cell?, g1]; rfl
  have x1 : (((w.alloc (.cells #[.int .i64 r.1, .int .i64 r.2.1, .int .i64 r.2.2.1, .int .i64 r.2.2.2.1, .int .i64 r.2.2.2.2, .slice A n c] 32)).alloc (.cells #[.int .i64 t.1, .int .i64 t.2.1, .int .i64 t.2.2.1, .int .i64 t.2.2.2] 37)).alloc (.cells #[.int .i64 0, .int .i64 0, .int .i64 0, .int .i64 0, .int .i64 0, .slice none 0 0] 32)).cell? ⟨w.heap.size, 1, none⟩ = some (.int .i64 r.2.1) := by simp only [World.cell?, g1]; rfl
  have x2 : (((w.alloc (.cells #[.int .i64 r.1, .int .i64 r.2.1, .int .i64 r.2.2.1, .int .i64 r.2.2.2.1, .int .i64 r.2.2.2.2, .slice A n c] 32)).alloc (.cells #[.int .i64 t.1, .int .i64 t.2.1, .int .i64 t.2.2.1, .int .i64 t.2.2.2] 37)).alloc (.cells #[.int .i64 0, .int .i64 0, .int .i64 0, .int .i64 0, .int .i64 0, .slice none 0 0] 32)).cell? ⟨w.heap.size, 2, none⟩ = some (.int .i64 r.2.2.1) := by simp only [World.cell?, g1]; rfl
  have x3 : (((w.alloc (.cells #[.int .i64 r.1, .int .i64 r.2.1, .int .i64 r.2.2.1, .int .i64 r.2.2.2.1, .int .i64 r.2.2.2.2, .slice A n c] 32)).alloc (.cells #[.int .i64 t.1, .int .i64 t.2.1, .int .i64 t.2.2.1, .int .i64 t.2.2.2] 37)).alloc (.cells #[.int .i64 0, .int .i64 0, .int .i64 0, .int .i64 0, .int .i64 0, .slice none 0 0] 32)).cell? ⟨w.heap.size, 3, none⟩ = some (.int .i64 r.2.2.2.1) := by simp only [World.cell?, g1]; rfl
  have x4 : (((w.alloc (.cells #[.int .i64 r.1, .int .i64 r.2.1, .int .i64 r.2.2.1, .int .i64 r.2.2.2.1, .int .i64 r.2.2.2.2, .slice A n c] 32)).alloc (.cells #[.int .i64 t.1, .int .i64 t.2.1, .int .i64 t.2.2.1, .int .i64 t.2.2.2] 37)).alloc (.cells #[.int .i64 0, .int .i64 0, .int .i64 0, .int .i64 0, .int .i64 0, .slice none 0 0] 32)).cell? ⟨w.heap.size, 4, none⟩ = some (.int .i64 r.2.2.2.2) := by simp only [World.cell?, g1]; rfl
  have x5 : (((w.alloc (.cells #[.int .i64 r.1, .int .i64 r.2.1, .int .i64 r.2.2.1, .int .i64 r.2.2.2.1, .int .i64 r.2.2.2.2, .slice A n c] 32)).alloc (.cells #[.int .i64 t.1, .int .i64 t.2.1, .int .i64 t.2.2.1, .int .i64 t.2.2.2] 37)).alloc (.cells #[.int .i64 0, .int .i64 0, .int .i64 0, .int .i64 0, .int .i64 0, .slice none 0 0] 32)).cell? ⟨w.heap.size, 5, none⟩ = some (.slice A n c) := by simp only [World.cell?, g1]; rfl
  have t0 : (((w.alloc (.cells #[.int .i64 r.1, .int .i64 r.2.1, .int .i64 r.2.2.1, .int .i64 r.2.2.2.1, .int .i64 r.2.2.2.2, .slice A n c] 32)).alloc (.cells #[.int .i64 t.1, .int .i64 t.2.1, .int .i64 t.2.2.1, .int .i64 t.2.2.2] 37)).alloc (.cells #[.int .i64 0, .int .i64 0, .int .i64 0, .int .i64 0, .int .i64 0, .slice none 0 0] 32)).cell? ⟨w.heap.size + 1, 0, none⟩ = some (.int .i64 t.1) := by simp only [World.cell?, g2]; rfl
  have t1 : (((w.alloc (.cells #[.int .i64 r.1, .int .i64 r.2.1, .int .i64 r.2.2.1, .int .i64 r.2.2.2.1, .int .i64 r.2.2.2.2, .slice A n c] 32)).alloc (.cells #[.int .i64 t.1, .int .i64 t.2.1, .int .i64 t.2.2.1, .int .i64 t.2.2.2] 37)).alloc (.cells #[.int .i64 0, .int .i64 0, .int .i64 0, .int .i64 0, .int .i64 0, .slice none 0 0] 32)).cell? ⟨w.heap.size + 1, 1, none⟩ = some (.int .i64 t.2.1) := by simp only [World.cell?, g2]; rfl
  have t2 : (((w.alloc (.cells #[.int .i64 r.1, .int .i64 r.2.1, .int .i64 r.2.2.1, .int .i64 r.2.2.2.1, .int .i64 r.2.2.2.2, .slice A n c] 32)).alloc (.cells #[.int .i64 t.1, .int .i64 t.2.1, .int .i64 t.2.2.1, .int .i64 t.2.2.2] 37)).alloc (.cells #[.int .i64 0, .int .i64 0, .int .i64 0, .int .i64 0, .int .i64 0, .slice none 0 0] 32)).cell? ⟨w.heap.size + 1, 2, none⟩ = some (.int .i64 t.2.2.1) := by simp only [World.cell?, g2]; rfl
  have t3 : (((w.alloc (.cells #[.int .i64 r.1, .int .i64 r.2.1, .int .i64 r.2.2.1, .int .i64 r.2.2.2.1, .int .i64 r.2.2.2.2, .slice A n c] 32)).alloc (.cells #[.int .i64 t.1, .int .i64 t.2.1, .int .i64 t.2.2.1, .int .i64 t.2.2.2] 37)).alloc (.cells #[.int .i64 0, .int .i64 0, .int .i64 0, .int .i64 0, .int .i64 0, .slice none 0 0] 32)).cell? ⟨w.heap.size + 1, 3, none⟩ = some (.int .i64 t.2.2.2) := by simp only [World.cell?, g2]; rfl
  have qz0 : (((w.alloc (.cells #[.int .i64 r.1, .int .i64 r.2.1, .int .i64 r.2.2.1, .int .i64 r.2.2.2.1, .int .i64 r.2.2.2.2, .slice A n c] 32)).alloc (.cells #[.int .i64 t.1, .int .i64 t.2.1, .int .i64 t.2.2.1, .int .i64 t.2.2.2] 37)).alloc (.cells #[.int .i64 0, .int .i64 0, .int .i64 0, .int .i64 0, .int .i64 0, .slice none 0 0] 32)).cell? ⟨w.heap.size + 1 + 1, 0, none⟩ = some (.int .i64 0) := by simp only [World.cell?, g3]; rfl
  have qz1 : (((w.alloc (.cells #[.int .i64 r.1, .int .i64 r.2.1, .int .i64 r.2.2.1, .int .i64 r.2.2.2.1, .int .i64 r.2.2.2.2, .slice A n c] 32)).alloc (.cells #[.int .i64 t.1, .int .i64 t.2.1, .int .i64 t.2.2.1, .int .i64 t.2.2.2] 37)).alloc (.cells #[.int .i64 0, .int .i64 0, .int .i64 0, .int .i64 0, .int .i64 0, .slice none 0 0] 32)).cell? ⟨w.heap.size + 1 + 1, 1, none⟩ = some (.int .i64 0) := by simp only [World.cell?, g3]; rfl
  have qz2 : (((w.alloc (.cells #[.int .i64 r.1, .int .i64 r.2.1, .int .i64 r.2.2.1, .int .i64 r.2.2.2.1, .int .i64 r.2.2.2.2, .slice A n c] 32)).alloc (.cells #[.int .i64 t.1, .int .i64 t.2.1, .int .i64 t.2.2.1, .int .i64 t.2.2.2] 37)).alloc (.cells #[.int .i64 0, .int .i64 0, .int .i64 0, .int .i64 0, .int .i64 0, .slice none 0 0] 32)).cell? ⟨w.heap.size + 1 + 1, 2, none⟩ = some (.int .i64 0) := by simp only [World.cell?, g3]; rfl
  have qz3 : (((w.alloc (.cells #[.int .i64 r.1, .int .i64 r.2.1, .int .i64 r.2.2.1, .int .i64 r.2.2.2.1, .int .i64 r.2.2.2.2, .slice A n c] 32)).alloc (.cells #[.int .i64 t.1, .int .i64 t.2.1, .int .i64 t.2.2.1, .int .i64 t.2.2.2] 37)).alloc (.cells #[.int .i64 0, .int .i64 0, .int .i64 0, .int .i64 0, .int .i64 0, .slice none 0 0] 32)).cell? ⟨w.heap.size + 1 + 1, 3, none⟩ = some (.int .i64 0) := by simp only [World.cell?, g3]; rfl
  have qz4 : (((w.alloc (.cells #[.int .i64 r.1, .int .i64 r.2.1, .int .i64 r.2.2.1, .int .i64 r.2.2.2.1, .int .i64 r.2.2.2.2, .slice A n c] 32)).alloc (.cells #[.int .i64 t.1, .int .i64 t.2.1, .int .i64 t.2.2.1, .int .i64 t.2.2.2] 37)).alloc (.cells #[.int .i64 0, .int .i64 0, .int .i64 0, .int .i64 0, .int .i64 0, .slice none 0 0] 32)).cell? ⟨w.heap.size + 1 + 1, 4, none⟩ = some (.int .i64 0) := by simp only [World.cell?, g3]; rfl
  have qz5 : (((w.alloc (.cells #[.int .i64 r.1, .int .i64 r.2.1, .int .i64 r.2.2.1, .int .i64 r.2.2.2.1, .int .i64 r.2.2.2.2, .slice A n c] 32)).alloc (.cells #[.int .i64 t.1, .int .i64 t.2.1, .int .i64 t.2.2.1, .int .i64 t.2.2.2] 37)).alloc (.cells #[.int .i64 0, .int .i64 0, .int .i64 0, .int .i64 0, .int .i64 0, .slice none 0 0] 32)).cell? ⟨w.heap.size + 1 + 1, 5, none⟩ = some (.slice none 0 0) := by simp only [World.cell?, g3]; rfl
  have fz0 : (((w.alloc (.cells #[.int .i64 r.1, .int .i64 r.2.1, .int .i64 r.2.2.1, .int .i64 r.2.2.2.1, .int .i64 r.2.2.2.2, .slice A n c] 32)).alloc (.cells #[.int .i64 t.1, .int .i64 t.2.1, .int .i64 t.2.2.1, .int .i64 t.2.2.2] 37)).alloc (.cells #[.int .i64 0, .int .i64 0, .int .i64 0, .int .i64 0, .int .i64 0, .slice none 0 0] 32)).frozen? ⟨w.heap.size + 1 + 1, 0, none⟩ = false := by simp only [World.frozen?, g3]; simp
  have fz1 : (((w.alloc (.cells #[.int .i64 r.1, .int .i64 r.2.1, .int .i64 r.2.2.1, .int .i64 r.2.2.2.1, .int .i64 r.2.2.2.2, .slice A n c] 32)).alloc (.cells #[.int .i64 t.1, .int .i64 t.2.1, .int .i64 t.2.2.1, .int .i64 t.2.2.2] 37)).alloc (.cells #[.int .i64 0, .int .i64 0, .int .i64 0, .int .i64 0, .int .i64 0, .slice none 0 0] 32)).frozen? ⟨w.heap.size + 1 + 1, 1, none⟩ = false := by simp only [World.frozen?, g3]; simp
  have fz2 : (((w.alloc (.cells #[.int .i64 r.1, .int .i64 r.2.1, .int .i64 r.2.2.1, .int .i64 r.2.2.2.1, .int .i64 r.2.2.2.2, .slice A n c] 32)).alloc (.cells #[.int .i64 t.1, .int .i64 t.2.1, .int .i64 t.2.2.1, .int .i64 t.2.2.2] 37)).alloc (.cells #[.int .i64 0, .int .i64 0, .int .i64 0, .int .i64 0, .int .i64 0, .slice none 0 0] 32)).frozen? ⟨w.heap.size + 1 + 1, 2, none⟩ = false := by simp only [World.frozen?, g3]; simp
  have fz3 : (((w.alloc (.cells #[.int .i64 r.1, .int .i64 r.2.1, .int .i64 r.2.2.1, .int .i64 r.2.2.2.1, .int .i64 r.2.2.2.2, .slice A n c] 32)).alloc (.cells #[.int .i64 t.1, .int .i64 t.2.1, .int .i64 t.2.2.1, .int .i64 t.2.2.2] 37)).alloc (.cells #[.int .i64 0, .int .i64 0, .int .i64 0, .int .i64 0, .int .i64 0, .slice none 0 0] 32)).frozen? ⟨w.heap.size + 1 + 1, 3, none⟩ = false := by simp only [World.frozen?, g3]; simp
  have fz4 : (((w.alloc (.cells #[.int .i64 r.1, .int .i64 r.2.1, .int .i64 r.2.2.1, .int .i64 r.2.2.2.1, .int .i64 r.2.2.2.2, .slice A n c] 32)).alloc (.cells #[.int .i64 t.1, .int .i64 t.2.1, .int .i64 t.2.2.1, .int .i64 t.2.2.2] 37)).alloc (.cells #[.int .i64 0, .int .i64 0, .int .i64 0, .int .i64 0, .int .i64 0, .slice none 0 0] 32)).frozen? ⟨w.heap.size + 1 + 1, 4, none⟩ = false := by simp only [World.frozen?, g3]; simp
  have fz5 : (((w.alloc (.cells #[.int .i64 r.1, .int .i64 r.2.1, .int .i64 r.2.2.1, .int .i64 r.2.2.2.1, .int .i64 r.2.2.2.2, .slice A n c] 32)).alloc (.cells #[.int .i64 t.1, .int .i64 t.2.1, .int .i64 t.2.2.1, .int .i64 t.2.2.2] 37)).alloc (.cells #[.int .i64 0, .int .i64 0, .int .i64 0, .int .i64 0, .int .i64 0, .slice none 0 0] 32)).frozen? ⟨w.heap.size + 1 + 1, 5, none⟩ = false := by simp only [World.frozen?, g3]; simp
  have hl0 : w.heap.size + 1 + 1 < (((w.alloc (.cells #[.int .i64 r.1, .int .i64 r.2.1, .int .i64 r.2.2.1, .int .i64 r.2.2.2.1, .int .i64 r.2.2.2.2, .slice A n c] 32)).alloc (.cells #[.int .i64 t.1, .int .i64 t.2.1, .int .i64 t.2.2.1, .int .i64 t.2.2.2] 37)).alloc (.cells #[.int .i64 0, .int .i64 0, .int .i64 0, .int .i64 0, .int .i64 0, .slice none 0 0] 32)).heap.size := by rw [g4]; omega
  clear g1 g2 g3 g4
  go_enter Try.func23, Try.ntmps23
  go_wp2_with fail
  generalize (((w.alloc (.cells #[.int .i64 r.1, .int .i64 r.2.1, .int .i64 r.2.2.1, .int .i64 r.2.2.2.1, .int .i64 r.2.2.2.2, .slice A n c] 32)).alloc (.cells #[.int .i64 t.1, .int .i64 t.2.1, .int .i64 t.2.2.1, .int .i64 t.2.2.2] 37)).alloc (.cells #[.int .i64 0, .int .i64 0, .int .i64 0, .int .i64 0, .int .i64 0, .slice none 0 0] 32)) = w0 at *
  refine (PlayerOk_c r A n c lo hi xs w0 hn'.out hb hc hc2 (hs.below hb0 hhi) (Nat.le_trans hhi hb0.size)).mono ?_
  rintro e w1 ⟨rfl, hb1⟩
  have hB1 := hb0.trans (hb1.mono hb0.size)
  have x0 := keepc hb1 x0
  have x1 := keepc hb1 x1
  have x2 := keepc hb1 x2
  have x3 := keepc hb1 x3
  have x4 := keepc hb1 x4
  have x5 := keepc hb1 x5
  have t0 := keepc hb1 t0
  have t1 := keepc hb1 t1
  have t2 := keepc hb1 t2
  have t3 := keepc hb1 t3
  have qz0 := keepc hb1 qz0
  have qz1 := keepc hb1 qz1
  have qz2 := keepc hb1 qz2
  have qz3 := keepc hb1 qz3
  have qz4 := keepc hb1 qz4
  have qz5 := keepc hb1 qz5
  have fz0 := keepf hb1 (hl0) fz0
  have fz1 := keepf hb1 (hl0) fz1
  have fz2 := keepf hb1 (hl0) fz2
  have fz3 := keepf hb1 (hl0) fz3
  have fz4 := keepf hb1 (hl0) fz4
  have fz5 := keepf hb1 (hl0) fz5
  have hl1 : w.heap.size + 1 + 1 < w1.heap.size := lt_of_cell qz0
  cases e1 : decide (okPl r xs)
  · have hno := hide (hearL_not (t := t) e1)
    go_wp2
    refine bodyPost_ret (v := .tuple #[.agg #[.int .i64 0, .int .i64 0, .int .i64 0, .int .i64 0, .int .i64 0, .slice none 0 0], .bool false]) (by simp [results, Try.results23, go_sem, qz0, qz1, qz2, qz3, qz4, qz5]) rfl ⟨(0, 0, 0, 0, 0), none, 0, 0, false, rfl, ?_, ?_, ?_, ?_, set6_below _ _ _ _ _ _ (by omega) hB1⟩
    · rw [hno.out]; exact Own.nil_ _ _ _ _ _
    · rw [hno.out]; rfl
    · rw [hno.out]
    · rw [hno.out]
  · have hyes := hide (hearL_ok (t := t) e1)
    have hl4x := hide (okPl_len (of_decide_eq_true e1))
    go_wp2_with fail
    refine (copyOf_c r A n c lo hi xs w1 hn'.out hb (hs.below hB1 hhi) (Nat.le_trans hhi hB1.size)).mono ?_
    rintro e w2 ⟨A2, c2, rfl, ho2', hb2⟩
    have hB2 := hB1.trans (hb2.mono hB1.size)
    have ho2 := ho2'.mono hB1.size
    have x0 := keepc hb2 x0
    have x1 := keepc hb2 x1
    have x2 := keepc hb2 x2
    have x3 := keepc hb2 x3
    have x4 := keepc hb2 x4
    have x5 := keepc hb2 x5
    have t0 := keepc hb2 t0
    have t1 := keepc hb2 t1
    have t2 := keepc hb2 t2
    have t3 := keepc hb2 t3
    have qz0 := keepc hb2 qz0
    have qz1 := keepc hb2 qz1
    have qz2 := keepc hb2 qz2
    have qz3 := keepc hb2 qz3
    have qz4 := keepc hb2 qz4
    have qz5 := keepc hb2 qz5
    have fz0 := keepf hb2 (hl1) fz0
    have fz1 := keepf hb2 (hl1) fz1
    have fz2 := keepf hb2 (hl1) fz2
    have fz3 := keepf hb2 (hl1) fz3
    have fz4 := keepf hb2 (hl1) fz4
    have fz5 := keepf hb2 (hl1) fz5
    have hl2 : w.heap.size + 1 + 1 < w2.heap.size := lt_of_cell qz0
    have hA3 := (Below.refl w2.heap.size w2).alloc (Nat.le_refl _) (.cells #[.int .i64 r.1, .int .i64 r.2.1, .int .i64 r.2.2.1, .int .i64 r.2.2.2.1, .int .i64 r.2.2.2.2, .slice A2 xs.length c2] 32)
    have hB3 := hB2.trans (hA3.mono hB2.size)
    have ho3 := ho2.alloc (.cells #[.int .i64 r.1, .int .i64 r.2.1, .int .i64 r.2.2.1, .int .i64 r.2.2.2.1, .int .i64 r.2.2.2.2, .slice A2 xs.length c2] 32)
    have ho3L := ho2'.alloc (.cells #[.int .i64 r.1, .int .i64 r.2.1, .int .i64 r.2.2.1, .int .i64 r.2.2.2.1, .int .i64 r.2.2.2.2, .slice A2 xs.length c2] 32)
    have hp3 : Hid ((w2.alloc (.cells #[.int .i64 r.1, .int .i64 r.2.1, .int .i64 r.2.2.1, .int .i64 r.2.2.2.1, .int .i64 r.2.2.2.2, .slice A2 xs.length c2] 32)).heap[w2.heap.size]? = some (.cells #[.int .i64 r.1, .int .i64 r.2.1, .int .i64 r.2.2.1, .int .i64 r.2.2.2.1, .int .i64 r.2.2.2.2, .slice A2 xs.length c2] 32)) := hide (heap_alloc_new w2 _)
    have x0 := keepc hA3 x0
    have x1 := keepc hA3 x1
    have x2 := keepc hA3 x2
    have x3 := keepc hA3 x3
    have x4 := keepc hA3 x4
    have x5 := keepc hA3 x5
    have t0 := keepc hA3 t0
    have t1 := keepc hA3 t1
    have t2 := keepc hA3 t2
    have t3 := keepc hA3 t3
    have qz0 := keepc hA3 qz0
    have qz1 := keepc hA3 qz1
    have qz2 := keepc hA3 qz2
    have qz3 := keepc hA3 qz3
    have qz4 := keepc hA3 qz4
    have qz5 := keepc hA3 qz5
    have fz0 := keepf hA3 (hl2) fz0
    have fz1 := keepf hA3 (hl2) fz1
    have fz2 := keepf hA3 (hl2) fz2
    have fz3 := keepf hA3 (hl2) fz3
    have fz4 := keepf hA3 (hl2) fz4
    have fz5 := keepf hA3 (hl2) fz5
    have p0 : (w2.alloc (.cells #[.int .i64 r.1, .int .i64 r.2.1, .int .i64 r.2.2.1, .int .i64 r.2.2.2.1, .int .i64 r.2.2.2.2, .slice A2 xs.length c2] 32)).cell? ⟨w2.heap.size, 0, none⟩ = some (.int .i64 r.1) := by simp
    have p1 : (w2.alloc (.cells #[.int .i64 r.1, .int .i64 r.2.1, .int .i64 r.2.2.1, .int .i64 r.2.2.2.1, .int .i64 r.2.2.2.2, .slice A2 xs.length c2] 32)).cell? ⟨w2.heap.size, 1, none⟩ = some (.int .i64 r.2.1) := by simp
    have p2 : (w2.alloc (.cells #[.int .i64 r.1, .int .i64 r.2.1, .int .i64 r.2.2.1, .int .i64 r.2.2.2.1, .int .i64 r.2.2.2.2, .slice A2 xs.length c2] 32)).cell? ⟨w2.heap.size, 2, none⟩ = some (.int .i64 r.2.2.1) := by simp
    have p3 : (w2.alloc (.cells #[.int .i64 r.1, .int .i64 r.2.1, .int .i64 r.2.2.1, .int .i64 r.2.2.2.1, .int .i64 r.2.2.2.2, .slice A2 xs.length c2] 32)).cell? ⟨w2.heap.size, 3, none⟩ = some (.int .i64 r.2.2.2.1) := by simp
    have p4 : (w2.alloc (.cells #[.int .i64 r.1, .int .i64 r.2.1, .int .i64 r.2.2.1, .int .i64 r.2.2.2.1, .int .i64 r.2.2.2.2, .slice A2 xs.length c2] 32)).cell? ⟨w2.heap.size, 4, none⟩ = some (.int .i64 r.2.2.2.2) := by simp
    have p5 : (w2.alloc (.cells #[.int .i64 r.1, .int .i64 r.2.1, .int .i64 r.2.2.1, .int .i64 r.2.2.2.1, .int .i64 r.2.2.2.2, .slice A2 xs.length c2] 32)).cell? ⟨w2.heap.size, 5, none⟩ = some (.slice A2 xs.length c2) := by simp
    have fp : (w2.alloc (.cells #[.int .i64 r.1, .int .i64 r.2.1, .int .i64 r.2.2.1, .int .i64 r.2.2.2.1, .int .i64 r.2.2.2.2, .slice A2 xs.length c2] 32)).frozen? ⟨w2.heap.size, 5, none⟩ = false := by simp only [World.frozen?, heap_alloc_new]; simp
    have hl3 : w2.heap.size < (w2.alloc (.cells #[.int .i64 r.1, .int .i64 r.2.1, .int .i64 r.2.2.1, .int .i64 r.2.2.2.1, .int .i64 r.2.2.2.2, .slice A2 xs.length c2] 32)).heap.size := by simp
    go_wp2_with fail
    generalize w2.alloc (.cells #[.int .i64 r.1, .int .i64 r.2.1, .int .i64 r.2.2.1, .int .i64 r.2.2.2.1, .int .i64 r.2.2.2.2, .slice A2 xs.length c2] 32) = w3 at *
    refine (fits_c r A n c lo hi xs t w3 hn'.out hb (hs.below hB3 hhi) (Nat.le_trans hhi hB3.size)).mono ?_
    rintro e w4 ⟨rfl, hb4⟩
    have hB4 := hB3.trans (hb4.mono hB3.size)
    have ho4 := ho3.below hb4 (Nat.le_refl _)
    have ho4L := ho3L.below hb4 (Nat.le_refl _)
    have hl23 : w.heap.size + 1 + 1 < w3.heap.size := by omega
    have x0 := keepc hb4 x0
    have x1 := keepc hb4 x1
    have x2 := keepc hb4 x2
    have x3 := keepc hb4 x3
    have x4 := keepc hb4 x4
    have x5 := keepc hb4 x5
    have t0 := keepc hb4 t0
    have t1 := keepc hb4 t1
    have t2 := keepc hb4 t2
    have t3 := keepc hb4 t3
    have qz0 := keepc hb4 qz0
    have qz1 := keepc hb4 qz1
    have qz2 := keepc hb4 qz2
    have qz3 := keepc hb4 qz3
    have qz4 := keepc hb4 qz4
    have qz5 := keepc hb4 qz5
    have p0 := keepc hb4 p0
    have p1 := keepc hb4 p1
    have p2 := keepc hb4 p2
    have p3 := keepc hb4 p3
    have p4 := keepc hb4 p4
    have p5 := keepc hb4 p5
    have fz0 := keepf hb4 (hl23) fz0
    have fz1 := keepf hb4 (hl23) fz1
    have fz2 := keepf hb4 (hl23) fz2
    have fz3 := keepf hb4 (hl23) fz3
    have fz4 := keepf hb4 (hl23) fz4
    have fz5 := keepf hb4 (hl23) fz5
    have fp := keepf hb4 hl3 fp
    have hl4 : w2.heap.size < w4.heap.size := lt_of_cell p0
    cases e2 : fitsL r xs t
    · have hft : Hid (fitsL r xs t = false) := hide e2
      go_wp2
      refine bodyPost_ret (v := .tuple #[.agg #[.int .i64 r.1, .int .i64 r.2.1, .int .i64 r.2.2.1, .int .i64 r.2.2.2.1, .int .i64 r.2.2.2.2, .slice A2 xs.length c2], .bool false]) (by simp [results, Try.results23, go_sem, qz0, qz1, qz2, qz3, qz4, qz5]) rfl ⟨r, A2, xs.length, c2, false, rfl, ?_, ?_, ?_, ?_, set6_below _ _ _ _ _ _ (by omega) hB4⟩
      · rw [hyes.out, hft.out]; exact ho4.keep (fun k hk => set6_keep _ _ _ _ _ _ (by have := (ho2'.lt k hk).1; omega))
      · rw [hyes.out, hft.out]; rfl
      · rw [hyes.out, hft.out]; rfl
      · rw [hyes.out, hft.out]; rfl
    · have hft : Hid (fitsL r xs t = true) := hide e2
      have hlw1 : w1.heap.size ≤ w4.heap.size := Nat.le_trans hb2.size (Nat.le_of_lt hl4)
      go_wp2_with (at_builtin; refine wpList_app encReply_len (by omega) encReply_one rfl _ _ 30 rfl 37 _ 32 Try.underlying30 infoReply rfl w1.heap.size _ xs rfl (ho4L.alloc _) 0 _ _ [t] _ _ rfl rfl (sl_arr encReply_len w4 #[.int .i64 t.1, .int .i64 t.2.1, .int .i64 t.2.2.1, .int .i64 t.2.2.2] _ [t] rfl |>.mono (Nat.zero_le _) (Nat.le_refl _)) ?h2 ?h3 ?_)
      case h2 => have := hn'.out; simp [maxLen]; omega
      case h3 => simp; omega
      intro v5 w5 ho5 hg5 hb5
      have hA5 := (Below.refl w4.heap.size w4).alloc (Nat.le_refl _) (.cells #[.int .i64 t.1, .int .i64 t.2.1, .int .i64 t.2.2.1, .int .i64 t.2.2.2] 37)
      have hB5 := (hB4.trans (hA5.mono hB4.size)).trans (hb5.mono hB1.size)
      have hlw1 : w1.heap.size ≤ w4.heap.size := Nat.le_trans hb2.size (Nat.le_of_lt hl4)
      obtain ⟨A5, c5, rfl, hc51, hc52, hs5⟩ := ho5.sl encReply_len
      have hk0 : ∀ k, k < w1.heap.size ∨ k = w2.heap.size → w5.heap[k]? = w4.heap[k]? := fun k hk => (hg5.block k (by simp; omega) (fun e => by have h9 := ho2'.lt k e.symm; omega)).trans (hA5.block k (by omega))
      have x0 := (World.cell?_of_block (hk0 w.heap.size (.inl (by omega)))).trans x0
      have x1 := (World.cell?_of_block (hk0 w.heap.size (.inl (by omega)))).trans x1
      have x2 := (World.cell?_of_block (hk0 w.heap.size (.inl (by omega)))).trans x2
      have x3 := (World.cell?_of_block (hk0 w.heap.size (.inl (by omega)))).trans x3
      have x4 := (World.cell?_of_block (hk0 w.heap.size (.inl (by omega)))).trans x4
      have x5 := (World.cell?_of_block (hk0 w.heap.size (.inl (by omega)))).trans x5
      have t0 := (World.cell?_of_block (hk0 (w.heap.size + 1) (.inl (by omega)))).trans t0
      have t1 := (World.cell?_of_block (hk0 (w.heap.size + 1) (.inl (by omega)))).trans t1
      have t2 := (World.cell?_of_block (hk0 (w.heap.size + 1) (.inl (by omega)))).trans t2
      have t3 := (World.cell?_of_block (hk0 (w.heap.size + 1) (.inl (by omega)))).trans t3
      have qz0 := (World.cell?_of_block (hk0 (w.heap.size + 1 + 1) (.inl (by omega)))).trans qz0
      have qz1 := (World.cell?_of_block (hk0 (w.heap.size + 1 + 1) (.inl (by omega)))).trans qz1
      have qz2 := (World.cell?_of_block (hk0 (w.heap.size + 1 + 1) (.inl (by omega)))).trans qz2
      have qz3 := (World.cell?_of_block (hk0 (w.heap.size + 1 + 1) (.inl (by omega)))).trans qz3
      have qz4 := (World.cell?_of_block (hk0 (w.heap.size + 1 + 1) (.inl (by omega)))).trans qz4
      have qz5 := (World.cell?_of_block (hk0 (w.heap.size + 1 + 1) (.inl (by omega)))).trans qz5
      have p0 := (World.cell?_of_block (hk0 w2.heap.size (.inr rfl))).trans p0
      have p1 := (World.cell?_of_block (hk0 w2.heap.size (.inr rfl))).trans p1
      have p2 := (World.cell?_of_block (hk0 w2.heap.size (.inr rfl))).trans p2
      have p3 := (World.cell?_of_block (hk0 w2.heap.size (.inr rfl))).trans p3
      have p4 := (World.cell?_of_block (hk0 w2.heap.size (.inr rfl))).trans p4
      have p5 := (World.cell?_of_block (hk0 w2.heap.size (.inr rfl))).trans p5
      have fz0 := (frozen_blk (hk0 (w.heap.size + 1 + 1) (.inl (by omega)))).trans fz0
      have fz1 := (frozen_blk (hk0 (w.heap.size + 1 + 1) (.inl (by omega)))).trans fz1
      have fz2 := (frozen_blk (hk0 (w.heap.size + 1 + 1) (.inl (by omega)))).trans fz2
      have fz3 := (frozen_blk (hk0 (w.heap.size + 1 + 1) (.inl (by omega)))).trans fz3
      have fz4 := (frozen_blk (hk0 (w.heap.size + 1 + 1) (.inl (by omega)))).trans fz4
      have fz5 := (frozen_blk (hk0 (w.heap.size + 1 + 1) (.inl (by omega)))).trans fz5
      have fp := (frozen_blk (hk0 w2.heap.size (.inr rfl))).trans fp
      have hl5 : w2.heap.size < w5.heap.size := lt_of_cell p0
      have hlx : (xs ++ [t]).length = xs.length + 1 := by simp
      go_wp2_with fail
      refine (cloneReply_c A5 (xs.length + 1) c5 _ _ (xs ++ [t]) w5 hlx.symm (by have := hl4x.out; omega) hs5 (Nat.le_refl _)).mono ?_
      rintro e w6 ⟨A6, rfl, ho6, hb6⟩
      have hB6 := hB5.trans (hb6.mono hB5.size)
      have hl25 : w.heap.size + 1 + 1 < w5.heap.size := by omega
      have x0 := keepc hb6 x0
      have x1 := keepc hb6 x1
      have x2 := keepc hb6 x2
      have x3 := keepc hb6 x3
      have x4 := keepc hb6 x4
      have x5 := keepc hb6 x5
      have t0 := keepc hb6 t0
      have t1 := keepc hb6 t1
      have t2 := keepc hb6 t2
      have t3 := keepc hb6 t3
      have qz0 := keepc hb6 qz0
      have qz1 := keepc hb6 qz1
      have qz2 := keepc hb6 qz2
      have qz3 := keepc hb6 qz3
      have qz4 := keepc hb6 qz4
      have qz5 := keepc hb6 qz5
      have p0 := keepc hb6 p0
      have p1 := keepc hb6 p1
      have p2 := keepc hb6 p2
      have p3 := keepc hb6 p3
      have p4 := keepc hb6 p4
      have p5 := keepc hb6 p5
      have fz0 := keepf hb6 (hl25) fz0
      have fz1 := keepf hb6 (hl25) fz1
      have fz2 := keepf hb6 (hl25) fz2
      have fz3 := keepf hb6 (hl25) fz3
      have fz4 := keepf hb6 (hl25) fz4
      have fz5 := keepf hb6 (hl25) fz5
      have fp := keepf hb6 hl5 fp
      have hn26 : w2.heap.size ≠ w.heap.size + 1 + 1 := by omega
      go_wp2
      refine bodyPost_ret (v := .tuple #[.agg #[.int .i64 r.1, .int .i64 r.2.1, .int .i64 r.2.2.1, .int .i64 r.2.2.2.1, .int .i64 r.2.2.2.2, .slice A6 (xs.length + 1) (xs.length + 1)], .bool true]) (by simp [results, Try.results23, go_sem, qz0, qz1, qz2, qz3, qz4, qz5, p0, p1, p2, p3, p4, p5]) rfl ⟨r, A6, xs.length + 1, xs.length + 1, true, rfl, ?_, ?_, ?_, ?_, ?_⟩
      · rw [hyes.out, hft.out]
        exact (ho6.mono hB5.size).keep (fun k hk => (set6_keep _ _ _ _ _ _ (by have := (ho6.lt k hk).1; omega)).trans (Below.heap_setCell _ ⟨_, 5, none⟩ _ k (by have := (ho6.lt k hk).1; simp; omega)))
      · rw [hyes.out, hft.out]; exact hlx.symm
      · rw [hyes.out, hft.out]; rfl
      · rw [hyes.out, hft.out]; rfl
      · exact set6_below _ _ _ _ _ _ (by omega) (hB6.trans ((Below.refl _ _).setCell (by simp; omega) _))
set_option maxRecDepth 100000 in
set_option maxHeartbeats 4000000 in
theorem specPlayerHear_c (r : ReqV) (A : Option Addr) (n c lo hi : Nat) (xs : List ReplyT) (t : ReplyT) (w : World) (hn : n = xs.length) (hb : n ≤ 1048576) (hc : n ≤ c) (hc2 : c ≤ maxLen) (hs : Sl encReply 4 w lo hi A xs) (hhi : hi ≤ w.heap.size) :
    Calls Try.prog 24 #[.agg #[.int .i64 r.1, .int .i64 r.2.1, .int .i64 r.2.2.1, .int .i64 r.2.2.2.1, .int .i64 r.2.2.2.2, .slice A n c], .agg #[.int .i64 t.1, .int .i64 t.2.1, .int .i64 t.2.2.1, .int .i64 t.2.2.2]] w fun e w' => ∃ r' A' n' c' b, e = .returned (.tuple #[.agg #[.int .i64 r'.1, .int .i64 r'.2.1, .int .i64 r'.2.2.1, .int .i64 r'.2.2.2.1, .int .i64 r'.2.2.2.2, .slice A' n' c'], .bool b]) ∧ Own encReply 4 37 w' w.heap.size (.slice A' n' c') (hearL r xs t).1.2 ∧ n' = (hearL r xs t).1.2.length ∧ r' = (hearL r xs t).1.1 ∧ b = (hearL r xs t).2 ∧ Below w.heap.size w w' := by
  have hn' := hide hn
  clear hn
  have hb0 : Below w.heap.size w (((w.alloc (.cells #[.int .i64 r.1, .int .i64 r.2.1, .int .i64 r.2.2.1, .int .i64 r.2.2.2.1, .int .i64 r.2.2.2.2, .slice A n c] 32)).alloc (.cells #[.int .i64 t.1, .int .i64 t.2.1, .int .i64 t.2.2.1, .int .i64 t.2.2.2] 37)).alloc (.cells #[.int .i64 0, .int .i64 0, .int .i64 0, .int .i64 0, .int .i64 0, .slice none 0 0] 32)) := (((Below.refl _ _).alloc (Nat.le_refl _) _).alloc (by simp) _).alloc (by simp; omega) _
  obtain ⟨g1, g2, g3, g4⟩ := heap3 w (.cells #[.int .i64 r.1, .int .i64 r.2.1, .int .i64 r.2.2.1, .int .i64 r.2.2.2.1, .int .i64 r.2.2.2.2, .slice A n c] 32) (.cells #[.int .i64 t.1, .int .i64 t.2.1, .int .i64 t.2.2.1, .int .i64 t.2.2.2] 37) (.cells #[.int .i64 0, .int .i64 0, .int .i64 0, .int .i64 0, .int .i64 0, .slice none 0 0] 32)
  have x0 : (((w.alloc (.cells #[.int .i64 r.1, .int .i64 r.2.1, .int .i64 r.2.2.1, .int .i64 r.2.2.2.1, .int .i64 r.2.2.2.2, .slice A n c] 32)).alloc (.cells #[.int .i64 t.1, .int .i64 t.2.1, .int .i64 t.2.2.1, .int .i64 t.2.2.2] 37)).alloc (.cells #[.int .i64 0, .int .i64 0, .int .i64 0, .int .i64 0, .int .i64 0, .slice none 0 0] 32)).cell? ⟨w.heap.size, 0, none⟩ = some (.int .i64 r.1) := by simp only [World.cell?, g1]; rfl
  have x1 : (((w.alloc (.cells #[.int .i64 r.1, .int .i64 r.2.1, .int .i64 r.2.2.1, .int .i64 r.2.2.2.1, .int .i64 r.2.2.2.2, .slice A n c] 32)).alloc (.cells #[.int .i64 t.1, .int .i64 t.2.1, .int .i64 t.2.2.1, .int .i64 t.2.2.2] 37)).alloc (.cells #[.int .i64 0, .int .i64 0, .int .i64 0, .int .i64 0, .int .i64 0, .slice none 0 0] 32)).cell? ⟨w.heap.size, 1, none⟩ = some (.int .i64 r.2.1) := by simp only [World.cell?, g1]; rfl
  have x2 : (((w.alloc (.cells #[.int .i64 r.1, .int .i64 r.2.1, .int .i64 r.2.2.1, .int .i64 r.2.2.2.1, .int .i64 r.2.2.2.2, .slice A n c] 32)).alloc (.cells #[.int .i64 t.1, .int .i64 t.2.1, .int .i64 t.2.2.1, .int .i64 t.2.2.2] 37)).alloc (.cells #[.int .i64 0, .int .i64 0, .int .i64 0, .int .i64 0, .int .i64 0, .slice none 0 0] 32)).cell? ⟨w.heap.size, 2, none⟩ = some (.int .i64 r.2.2.1) := by simp only [World.cell?, g1]; rfl
  have x3 : (((w.alloc (.cells #[.int .i64 r.1, .int .i64 r.2.1, .int .i64 r.2.2.1, .int .i64 r.2.2.2.1, .int .i64 r.2.2.2.2, .slice A n c] 32)).alloc (.cells #[.int .i64 t.1, .int .i64 t.2.1, .int .i64 t.2.2.1, .int .i64 t.2.2.2] 37)).alloc (.cells #[.int .i64 0, .int .i64 0, .int .i64 0, .int .i64 0, .int .i64 0, .slice none 0 0] 32)).cell? ⟨w.heap.size, 3, none⟩ = some (.int .i64 r.2.2.2.1) := by simp only [World.cell?, g1]; rfl
  have x4 : (((w.alloc (.cells #[.int .i64 r.1, .int .i64 r.2.1, .int .i64 r.2.2.1, .int .i64 r.2.2.2.1, .int .i64 r.2.2.2.2, .slice A n c] 32)).alloc (.cells #[.int .i64 t.1, .int .i64 t.2.1, .int .i64 t.2.2.1, .int .i64 t.2.2.2] 37)).alloc (.cells #[.int .i64 0, .int .i64 0, .int .i64 0, .int .i64 0, .int .i64 0, .slice none 0 0] 32)).cell? ⟨w.heap.size, 4, none⟩ = some (.int .i64 r.2.2.2.2) := by simp only [World.cell?, g1]; rfl
  have x5 : (((w.alloc (.cells #[.int .i64 r.1, .int .i64 r.2.1, .int .i64 r.2.2.1, .int .i64 r.2.2.2.1, .int .i64 r.2.2.2.2, .slice A n c] 32)).alloc (.cells #[.int .i64 t.1, .int .i64 t.2.1, .int .i64 t.2.2.1, .int .i64 t.2.2.2] 37)).alloc (.cells #[.int .i64 0, .int .i64 0, .int .i64 0, .int .i64 0, .int .i64 0, .slice none 0 0] 32)).cell? ⟨w.heap.size, 5, none⟩ = some (.slice A n c) := by simp only [World.cell?, g1]; rfl
  have t0 : (((w.alloc (.cells #[.int .i64 r.1, .int .i64 r.2.1, .int .i64 r.2.2.1, .int .i64 r.2.2.2.1, .int .i64 r.2.2.2.2, .slice A n c] 32)).alloc (.cells #[.int .i64 t.1, .int .i64 t.2.1, .int .i64 t.2.2.1, .int .i64 t.2.2.2] 37)).alloc (.cells #[.int .i64 0, .int .i64 0, .int .i64 0, .int .i64 0, .int .i64 0, .slice none 0 0] 32)).cell? ⟨w.heap.size + 1, 0, none⟩ = some (.int .i64 t.1) := by simp only [World.cell?, g2]; rfl
  have t1 : (((w.alloc (.cells #[.int .i64 r.1, .int .i64 r.2.1, .int .i64 r.2.2.1, .int .i64 r.2.2.2.1, .int .i64 r.2.2.2.2, .slice A n c] 32)).alloc (.cells #[.int .i64 t.1, .int .i64 t.2.1, .int .i64 t.2.2.1, .int .i64 t.2.2.2] 37)).alloc (.cells #[.int .i64 0, .int .i64 0, .int .i64 0, .int .i64 0, .int .i64 0, .slice none 0 0] 32)).cell? ⟨w.heap.size + 1, 1, none⟩ = some (.int .i64 t.2.1) := by simp only [World.cell?, g2]; rfl
  have t2 : (((w.alloc (.cells #[.int .i64 r.1, .int .i64 r.2.1, .int .i64 r.2.2.1, .int .i64 r.2.2.2.1, .int .i64 r.2.2.2.2, .slice A n c] 32)).alloc (.cells #[.int .i64 t.1, .int .i64 t.2.1, .int .i64 t.2.2.1, .int .i64 t.2.2.2] 37)).alloc (.cells #[.int .i64 0, .int .i64 0, .int .i64 0, .int .i64 0, .int .i64 0, .slice none 0 0] 32)).cell? ⟨w.heap.size + 1, 2, none⟩ = some (.int .i64 t.2.2.1) := by simp only [World.cell?, g2]; rfl
  have t3 : (((w.alloc (.cells #[.int .i64 r.1, .int .i64 r.2.1, .int .i64 r.2.2.1, .int .i64 r.2.2.2.1, .int .i64 r.2.2.2.2, .slice A n c] 32)).alloc (.cells #[.int .i64 t.1, .int .i64 t.2.1, .int .i64 t.2.2.1, .int .i64 t.2.2.2] 37)).alloc (.cells #[.int .i64 0, .int .i64 0, .int .i64 0, .int .i64 0, .int .i64 0, .slice none 0 0] 32)).cell? ⟨w.heap.size + 1, 3, none⟩ = some (.int .i64 t.2.2.2) := by simp only [World.cell?, g2]; rfl
  have qz0 : (((w.alloc (.cells #[.int .i64 r.1, .int .i64 r.2.1, .int .i64 r.2.2.1, .int .i64 r.2.2.2.1, .int .i64 r.2.2.2.2, .slice A n c] 32)).alloc (.cells #[.int .i64 t.1, .int .i64 t.2.1, .int .i64 t.2.2.1, .int .i64 t.2.2.2] 37)).alloc (.cells #[.int .i64 0, .int .i64 0, .int .i64 0, .int .i64 0, .int .i64 0, .slice none 0 0] 32)).cell? ⟨w.heap.size + 1 + 1, 0, none⟩ = some (.int .i64 0) := by simp only [World.cell?, g3]; rfl
  have qz1 : (((w.alloc (.cells #[.int .i64 r.1, .int .i64 r.2.1, .int .i64 r.2.2.1, .int .i64 r.2.2.2.1, .int .i64 r.2.2.2.2, .slice A n c] 32)).alloc (.cells #[.int .i64 t.1, .int .i64 t.2.1, .int .i64 t.2.2.1, .int .i64 t.2.2.2] 37)).alloc (.cells #[.int .i64 0, .int .i64 0, .int .i64 0, .int .i64 0, .int .i64 0, .slice none 0 0] 32)).cell? ⟨w.heap.size + 1 + 1, 1, none⟩ = some (.int .i64 0) := by simp only [World.cell?, g3]; rfl
  have qz2 : (((w.alloc (.cells #[.int .i64 r.1, .int .i64 r.2.1, .int .i64 r.2.2.1, .int .i64 r.2.2.2.1, .int .i64 r.2.2.2.2, .slice A n c] 32)).alloc (.cells #[.int .i64 t.1, .int .i64 t.2.1, .int .i64 t.2.2.1, .int .i64 t.2.2.2] 37)).alloc (.cells #[.int .i64 0, .int .i64 0, .int .i64 0, .int .i64 0, .int .i64 0, .slice none 0 0] 32)).cell? ⟨w.heap.size + 1 + 1, 2, none⟩ = some (.int .i64 0) := by simp only [World.cell?, g3]; rfl
  have qz3 : (((w.alloc (.cells #[.int .i64 r.1, .int .i64 r.2.1, .int .i64 r.2.2.1, .int .i64 r.2.2.2.1, .int .i64 r.2.2.2.2, .slice A n c] 32)).alloc (.cells #[.int .i64 t.1, .int .i64 t.2.1, .int .i64 t.2.2.1, .int .i64 t.2.2.2] 37)).alloc (.cells #[.int .i64 0, .int .i64 0, .int .i64 0, .int .i64 0, .int .i64 0, .slice none 0 0] 32)).cell? ⟨w.heap.size + 1 + 1, 3, none⟩ = some (.int .i64 0) := by simp only [World.cell?, g3]; rfl
  have qz4 : (((w.alloc (.cells #[.int .i64 r.1, .int .i64 r.2.1, .int .i64 r.2.2.1, .int .i64 r.2.2.2.1, .int .i64 r.2.2.2.2, .slice A n c] 32)).alloc (.cells #[.int .i64 t.1, .int .i64 t.2.1, .int .i64 t.2.2.1, .int .i64 t.2.2.2] 37)).alloc (.cells #[.int .i64 0, .int .i64 0, .int .i64 0, .int .i64 0, .int .i64 0, .slice none 0 0] 32)).cell? ⟨w.heap.size + 1 + 1, 4, none⟩ = some (.int .i64 0) := by simp only [World.cell?, g3]; rfl
  have qz5 : (((w.alloc (.cells #[.int .i64 r.1, .int .i64 r.2.1, .int .i64 r.2.2.1, .int .i64 r.2.2.2.1, .int .i64 r.2.2.2.2, .slice A n c] 32)).alloc (.cells #[.int .i64 t.1, .int .i64 t.2.1, .int .i64 t.2.2.1, .int .i64 t.2.2.2] 37)).alloc (.cells #[.int .i64 0, .int .i64 0, .int .i64 0, .int .i64 0, .int .i64 0, .slice none 0 0] 32)).cell? ⟨w.heap.size + 1 + 1, 5, none⟩ = some (.slice none 0 0) := by simp only [World.cell?, g3]; rfl
  have fz0 : (((w.alloc (.cells #[.int .i64 r.1, .int .i64 r.2.1, .int .i64 r.2.2.1, .int .i64 r.2.2.2.1, .int .i64 r.2.2.2.2, .slice A n c] 32)).alloc (.cells #[.int .i64 t.1, .int .i64 t.2.1, .int .i64 t.2.2.1, .int .i64 t.2.2.2] 37)).alloc (.cells #[.int .i64 0, .int .i64 0, .int .i64 0, .int .i64 0, .int .i64 0, .slice none 0 0] 32)).frozen? ⟨w.heap.size + 1 + 1, 0, none⟩ = false := by simp only [World.frozen?, g3]; simp
  have fz1 : (((w.alloc (.cells #[.int .i64 r.1, .int .i64 r.2.1, .int .i64 r.2.2.1, .int .i64 r.2.2.2.1, .int .i64 r.2.2.2.2, .slice A n c] 32)).alloc (.cells #[.int .i64 t.1, .int .i64 t.2.1, .int .i64 t.2.2.1, .int .i64 t.2.2.2] 37)).alloc (.cells #[.int .i64 0, .int .i64 0, .int .i64 0, .int .i64 0, .int .i64 0, .slice none 0 0] 32)).frozen? ⟨w.heap.size + 1 + 1, 1, none⟩ = false := by simp only [World.frozen?, g3]; simp
  have fz2 : (((w.alloc (.cells #[.int .i64 r.1, .int .i64 r.2.1, .int .i64 r.2.2.1, .int .i64 r.2.2.2.1, .int .i64 r.2.2.2.2, .slice A n c] 32)).alloc (.cells #[.int .i64 t.1, .int .i64 t.2.1, .int .i64 t.2.2.1, .int .i64 t.2.2.2] 37)).alloc (.cells #[.int .i64 0, .int .i64 0, .int .i64 0, .int .i64 0, .int .i64 0, .slice none 0 0] 32)).frozen? ⟨w.heap.size + 1 + 1, 2, none⟩ = false := by simp only [World.frozen?, g3]; simp
  have fz3 : (((w.alloc (.cells #[.int .i64 r.1, .int .i64 r.2.1, .int .i64 r.2.2.1, .int .i64 r.2.2.2.1, .int .i64 r.2.2.2.2, .slice A n c] 32)).alloc (.cells #[.int .i64 t.1, .int .i64 t.2.1, .int .i64 t.2.2.1, .int .i64 t.2.2.2] 37)).alloc (.cells #[.int .i64 0, .int .i64 0, .int .i64 0, .int .i64 0, .int .i64 0, .slice none 0 0] 32)).frozen? ⟨w.heap.size + 1 + 1, 3, none⟩ = false := by simp only [World.frozen?, g3]; simp
  have fz4 : (((w.alloc (.cells #[.int .i64 r.1, .int .i64 r.2.1, .int .i64 r.2.2.1, .int .i64 r.2.2.2.1, .int .i64 r.2.2.2.2, .slice A n c] 32)).alloc (.cells #[.int .i64 t.1, .int .i64 t.2.1, .int .i64 t.2.2.1, .int .i64 t.2.2.2] 37)).alloc (.cells #[.int .i64 0, .int .i64 0, .int .i64 0, .int .i64 0, .int .i64 0, .slice none 0 0] 32)).frozen? ⟨w.heap.size + 1 + 1, 4, none⟩ = false := by simp only [World.frozen?, g3]; simp
  have fz5 : (((w.alloc (.cells #[.int .i64 r.1, .int .i64 r.2.1, .int .i64 r.2.2.1, .int .i64 r.2.2.2.1, .int .i64 r.2.2.2.2, .slice A n c] 32)).alloc (.cells #[.int .i64 t.1, .int .i64 t.2.1, .int .i64 t.2.2.1, .int .i64 t.2.2.2] 37)).alloc (.cells #[.int .i64 0, .int .i64 0, .int .i64 0, .int .i64 0, .int .i64 0, .slice none 0 0] 32)).frozen? ⟨w.heap.size + 1 + 1, 5, none⟩ = false := by simp only [World.frozen?, g3]; simp
  have hl0 : w.heap.size + 1 + 1 < (((w.alloc (.cells #[.int .i64 r.1, .int .i64 r.2.1, .int .i64 r.2.2.1, .int .i64 r.2.2.2.1, .int .i64 r.2.2.2.2, .slice A n c] 32)).alloc (.cells #[.int .i64 t.1, .int .i64 t.2.1, .int .i64 t.2.2.1, .int .i64 t.2.2.2] 37)).alloc (.cells #[.int .i64 0, .int .i64 0, .int .i64 0, .int .i64 0, .int .i64 0, .slice none 0 0] 32)).heap.size := by rw [g4]; omega
  clear g1 g2 g3 g4
  go_enter Try.func24, Try.ntmps24
  go_wp2_with fail
  generalize (((w.alloc (.cells #[.int .i64 r.1, .int .i64 r.2.1, .int .i64 r.2.2.1, .int .i64 r.2.2.2.1, .int .i64 r.2.2.2.2, .slice A n c] 32)).alloc (.cells #[.int .i64 t.1, .int .i64 t.2.1, .int .i64 t.2.2.1, .int .i64 t.2.2.2] 37)).alloc (.cells #[.int .i64 0, .int .i64 0, .int .i64 0, .int .i64 0, .int .i64 0, .slice none 0 0] 32)) = w0 at *
  refine (l11Ok_c r A n c lo hi xs w0 hn'.out hb (hs.below hb0 hhi) (Nat.le_trans hhi hb0.size)).mono ?_
  rintro e w1 ⟨rfl, hb1⟩
  have hB1 := hb0.trans (hb1.mono hb0.size)
  have x0 := keepc hb1 x0
  have x1 := keepc hb1 x1
  have x2 := keepc hb1 x2
  have x3 := keepc hb1 x3
  have x4 := keepc hb1 x4
  have x5 := keepc hb1 x5
  have t0 := keepc hb1 t0
  have t1 := keepc hb1 t1
  have t2 := keepc hb1 t2
  have t3 := keepc hb1 t3
  have qz0 := keepc hb1 qz0
  have qz1 := keepc hb1 qz1
  have qz2 := keepc hb1 qz2
  have qz3 := keepc hb1 qz3
  have qz4 := keepc hb1 qz4
  have qz5 := keepc hb1 qz5
  have fz0 := keepf hb1 (hl0) fz0
  have fz1 := keepf hb1 (hl0) fz1
  have fz2 := keepf hb1 (hl0) fz2
  have fz3 := keepf hb1 (hl0) fz3
  have fz4 := keepf hb1 (hl0) fz4
  have fz5 := keepf hb1 (hl0) fz5
  have hl1 : w.heap.size + 1 + 1 < w1.heap.size := lt_of_cell qz0
  cases e1 : decide (okPl r xs)
  · have hno := hide (hearL_not (t := t) e1)
    go_wp2
    refine bodyPost_ret (v := .tuple #[.agg #[.int .i64 0, .int .i64 0, .int .i64 0, .int .i64 0, .int .i64 0, .slice none 0 0], .bool false]) (by simp [results, Try.results24, go_sem, qz0, qz1, qz2, qz3, qz4, qz5]) rfl ⟨(0, 0, 0, 0, 0), none, 0, 0, false, rfl, ?_, ?_, ?_, ?_, set6_below _ _ _ _ _ _ (by omega) hB1⟩
    · rw [hno.out]; exact Own.nil_ _ _ _ _ _
    · rw [hno.out]; rfl
    · rw [hno.out]
    · rw [hno.out]
  · have hyes := hide (hearL_ok (t := t) e1)
    have hl4x := hide (okPl_len (of_decide_eq_true e1))
    go_wp2_with fail
    refine (l11Copy_c r A n c lo hi xs w1 hn'.out hb (hs.below hB1 hhi) (Nat.le_trans hhi hB1.size)).mono ?_
    rintro e w2 ⟨A2, c2, rfl, ho2', hb2⟩
    have hB2 := hB1.trans (hb2.mono hB1.size)
    have ho2 := ho2'.mono hB1.size
    have x0 := keepc hb2 x0
    have x1 := keepc hb2 x1
    have x2 := keepc hb2 x2
    have x3 := keepc hb2 x3
    have x4 := keepc hb2 x4
    have x5 := keepc hb2 x5
    have t0 := keepc hb2 t0
    have t1 := keepc hb2 t1
    have t2 := keepc hb2 t2
    have t3 := keepc hb2 t3
    have qz0 := keepc hb2 qz0
    have qz1 := keepc hb2 qz1
    have qz2 := keepc hb2 qz2
    have qz3 := keepc hb2 qz3
    have qz4 := keepc hb2 qz4
    have qz5 := keepc hb2 qz5
    have fz0 := keepf hb2 (hl1) fz0
    have fz1 := keepf hb2 (hl1) fz1
    have fz2 := keepf hb2 (hl1) fz2
    have fz3 := keepf hb2 (hl1) fz3
    have fz4 := keepf hb2 (hl1) fz4
    have fz5 := keepf hb2 (hl1) fz5
    have hl2 : w.heap.size + 1 + 1 < w2.heap.size := lt_of_cell qz0
    have hA3 := (Below.refl w2.heap.size w2).alloc (Nat.le_refl _) (.cells #[.int .i64 r.1, .int .i64 r.2.1, .int .i64 r.2.2.1, .int .i64 r.2.2.2.1, .int .i64 r.2.2.2.2, .slice A2 xs.length c2] 32)
    have hB3 := hB2.trans (hA3.mono hB2.size)
    have ho3 := ho2.alloc (.cells #[.int .i64 r.1, .int .i64 r.2.1, .int .i64 r.2.2.1, .int .i64 r.2.2.2.1, .int .i64 r.2.2.2.2, .slice A2 xs.length c2] 32)
    have ho3L := ho2'.alloc (.cells #[.int .i64 r.1, .int .i64 r.2.1, .int .i64 r.2.2.1, .int .i64 r.2.2.2.1, .int .i64 r.2.2.2.2, .slice A2 xs.length c2] 32)
    have hp3 : Hid ((w2.alloc (.cells #[.int .i64 r.1, .int .i64 r.2.1, .int .i64 r.2.2.1, .int .i64 r.2.2.2.1, .int .i64 r.2.2.2.2, .slice A2 xs.length c2] 32)).heap[w2.heap.size]? = some (.cells #[.int .i64 r.1, .int .i64 r.2.1, .int .i64 r.2.2.1, .int .i64 r.2.2.2.1, .int .i64 r.2.2.2.2, .slice A2 xs.length c2] 32)) := hide (heap_alloc_new w2 _)
    have x0 := keepc hA3 x0
    have x1 := keepc hA3 x1
    have x2 := keepc hA3 x2
    have x3 := keepc hA3 x3
    have x4 := keepc hA3 x4
    have x5 := keepc hA3 x5
    have t0 := keepc hA3 t0
    have t1 := keepc hA3 t1
    have t2 := keepc hA3 t2
    have t3 := keepc hA3 t3
    have qz0 := keepc hA3 qz0
    have qz1 := keepc hA3 qz1
    have qz2 := keepc hA3 qz2
    have qz3 := keepc hA3 qz3
    have qz4 := keepc hA3 qz4
    have qz5 := keepc hA3 qz5
    have fz0 := keepf hA3 (hl2) fz0
    have fz1 := keepf hA3 (hl2) fz1
    have fz2 := keepf hA3 (hl2) fz2
    have fz3 := keepf hA3 (hl2) fz3
    have fz4 := keepf hA3 (hl2) fz4
    have fz5 := keepf hA3 (hl2) fz5
    have p0 : (w2.alloc (.cells #[.int .i64 r.1, .int .i64 r.2.1, .int .i64 r.2.2.1, .int .i64 r.2.2.2.1, .int .i64 r.2.2.2.2, .slice A2 xs.length c2] 32)).cell? ⟨w2.heap.size, 0, none⟩ = some (.int .i64 r.1) := by simp
    have p1 : (w2.alloc (.cells #[.int .i64 r.1, .int .i64 r.2.1, .int .i64 r.2.2.1, .int .i64 r.2.2.2.1, .int .i64 r.2.2.2.2, .slice A2 xs.length c2] 32)).cell? ⟨w2.heap.size, 1, none⟩ = some (.int .i64 r.2.1) := by simp
    have p2 : (w2.alloc (.cells #[.int .i64 r.1, .int .i64 r.2.1, .int .i64 r.2.2.1, .int .i64 r.2.2.2.1, .int .i64 r.2.2.2.2, .slice A2 xs.length c2] 32)).cell? ⟨w2.heap.size, 2, none⟩ = some (.int .i64 r.2.2.1) := by simp
    have p3 : (w2.alloc (.cells #[.int .i64 r.1, .int .i64 r.2.1, .int .i64 r.2.2.1, .int .i64 r.2.2.2.1, .int .i64 r.2.2.2.2, .slice A2 xs.length c2] 32)).cell? ⟨w2.heap.size, 3, none⟩ = some (.int .i64 r.2.2.2.1) := by simp
    have p4 : (w2.alloc (.cells #[.int .i64 r.1, .int .i64 r.2.1, .int .i64 r.2.2.1, .int .i64 r.2.2.2.1, .int .i64 r.2.2.2.2, .slice A2 xs.length c2] 32)).cell? ⟨w2.heap.size, 4, none⟩ = some (.int .i64 r.2.2.2.2) := by simp
    have p5 : (w2.alloc (.cells #[.int .i64 r.1, .int .i64 r.2.1, .int .i64 r.2.2.1, .int .i64 r.2.2.2.1, .int .i64 r.2.2.2.2, .slice A2 xs.length c2] 32)).cell? ⟨w2.heap.size, 5, none⟩ = some (.slice A2 xs.length c2) := by simp
    have fp : (w2.alloc (.cells #[.int .i64 r.1, .int .i64 r.2.1, .int .i64 r.2.2.1, .int .i64 r.2.2.2.1, .int .i64 r.2.2.2.2, .slice A2 xs.length c2] 32)).frozen? ⟨w2.heap.size, 5, none⟩ = false := by simp only [World.frozen?, heap_alloc_new]; simp
    have hl3 : w2.heap.size < (w2.alloc (.cells #[.int .i64 r.1, .int .i64 r.2.1, .int .i64 r.2.2.1, .int .i64 r.2.2.2.1, .int .i64 r.2.2.2.2, .slice A2 xs.length c2] 32)).heap.size := by simp
    have hfx : fitsL r xs t = (okRp t && ((t.2.1 == r.2.1) && !hasFrom t.1 xs)) := rfl
    have hfx' := hide hfx
    clear hfx
    go_wp2_with fail
    generalize w2.alloc (.cells #[.int .i64 r.1, .int .i64 r.2.1, .int .i64 r.2.2.1, .int .i64 r.2.2.2.1, .int .i64 r.2.2.2.2, .slice A2 xs.length c2] 32) = w3 at *
    refine (l11ReplyOk_c t w3).mono ?_
    rintro e w4 ⟨rfl, hb4⟩
    have hB4 := hB3.trans (hb4.mono hB3.size)
    have ho4 := ho3.below hb4 (Nat.le_refl _)
    have ho4L := ho3L.below hb4 (Nat.le_refl _)
    have hl23 : w.heap.size + 1 + 1 < w3.heap.size := by omega
    have x0 := keepc hb4 x0
    have x1 := keepc hb4 x1
    have x2 := keepc hb4 x2
    have x3 := keepc hb4 x3
    have x4 := keepc hb4 x4
    have x5 := keepc hb4 x5
    have t0 := keepc hb4 t0
    have t1 := keepc hb4 t1
    have t2 := keepc hb4 t2
    have t3 := keepc hb4 t3
    have qz0 := keepc hb4 qz0
    have qz1 := keepc hb4 qz1
    have qz2 := keepc hb4 qz2
    have qz3 := keepc hb4 qz3
    have qz4 := keepc hb4 qz4
    have qz5 := keepc hb4 qz5
    have p0 := keepc hb4 p0
    have p1 := keepc hb4 p1
    have p2 := keepc hb4 p2
    have p3 := keepc hb4 p3
    have p4 := keepc hb4 p4
    have p5 := keepc hb4 p5
    have fz0 := keepf hb4 (hl23) fz0
    have fz1 := keepf hb4 (hl23) fz1
    have fz2 := keepf hb4 (hl23) fz2
    have fz3 := keepf hb4 (hl23) fz3
    have fz4 := keepf hb4 (hl23) fz4
    have fz5 := keepf hb4 (hl23) fz5
    have fp := keepf hb4 hl3 fp
    have hl4 : w2.heap.size < w4.heap.size := lt_of_cell p0
    cases e2 : okRp t
    · have hft : Hid (fitsL r xs t = false) := hide (by rw [hfx'.out, e2]; rfl)
      go_wp2
      refine bodyPost_ret (v := .tuple #[.agg #[.int .i64 r.1, .int .i64 r.2.1, .int .i64 r.2.2.1, .int .i64 r.2.2.2.1, .int .i64 r.2.2.2.2, .slice A2 xs.length c2], .bool false]) (by simp [results, Try.results24, go_sem, qz0, qz1, qz2, qz3, qz4, qz5]) rfl ⟨r, A2, xs.length, c2, false, rfl, ?_, ?_, ?_, ?_, set6_below _ _ _ _ _ _ (by omega) hB4⟩
      · rw [hyes.out, hft.out]; exact ho4.keep (fun k hk => set6_keep _ _ _ _ _ _ (by have := (ho2'.lt k hk).1; omega))
      · rw [hyes.out, hft.out]; rfl
      · rw [hyes.out, hft.out]; rfl
      · rw [hyes.out, hft.out]; rfl
    · cases e3 : (t.2.1 == r.2.1)
      · have e3' : (t.2.1 != r.2.1) = true := by simpa using e3
        have hft : Hid (fitsL r xs t = false) := hide (by rw [hfx'.out, e2, e3]; rfl)
        go_wp2
        refine bodyPost_ret (v := .tuple #[.agg #[.int .i64 r.1, .int .i64 r.2.1, .int .i64 r.2.2.1, .int .i64 r.2.2.2.1, .int .i64 r.2.2.2.2, .slice A2 xs.length c2], .bool false]) (by simp [results, Try.results24, go_sem, qz0, qz1, qz2, qz3, qz4, qz5]) rfl ⟨r, A2, xs.length, c2, false, rfl, ?_, ?_, ?_, ?_, set6_below _ _ _ _ _ _ (by omega) hB4⟩
        · rw [hyes.out, hft.out]; exact ho4.keep (fun k hk => set6_keep _ _ _ _ _ _ (by have := (ho2'.lt k hk).1; omega))
        · rw [hyes.out, hft.out]; rfl
        · rw [hyes.out, hft.out]; rfl
        · rw [hyes.out, hft.out]; rfl
      · have e3' : (t.2.1 != r.2.1) = false := by simpa using e3
        have hfy : Hid (fitsL r xs t = !hasFrom t.1 xs) := hide (by rw [hfx'.out, e2, e3]; rfl)
        go_wp2_with fail
        go_loopw [7] (fun iv wr => ∃ k : Nat, k ≤ n ∧ iv = .int .i64 k ∧ Hid (∀ j (h : j < xs.length), j < k → ¬ xs[j].1 = t.1) ∧ Below w4.heap.size w4 wr) (fun iv _ => n - (intOf iv).toNat)
        case atStart => exact ⟨0, Nat.zero_le _, rfl, hide (fun j h h' => absurd h' (by omega)), Below.refl _ _⟩
        case round =>
          obtain ⟨k, hk, rfl, hno, hbr⟩ := hrel
          have hBr := hB4.trans (hbr.mono hB4.size)
          have hor := ho4.below hbr (Nat.le_refl _)
          have horL := ho4L.below hbr (Nat.le_refl _)
          have hl24 : w.heap.size + 1 + 1 < w4.heap.size := by omega
          have x0 := keepc hbr x0
          have x1 := keepc hbr x1
          have x2 := keepc hbr x2
          have x3 := keepc hbr x3
          have x4 := keepc hbr x4
          have x5 := keepc hbr x5
          have t0 := keepc hbr t0
          have t1 := keepc hbr t1
          have t2 := keepc hbr t2
          have t3 := keepc hbr t3
          have qz0 := keepc hbr qz0
          have qz1 := keepc hbr qz1
          have qz2 := keepc hbr qz2
          have qz3 := keepc hbr qz3
          have qz4 := keepc hbr qz4
          have qz5 := keepc hbr qz5
          have p0 := keepc hbr p0
          have p1 := keepc hbr p1
          have p2 := keepc hbr p2
          have p3 := keepc hbr p3
          have p4 := keepc hbr p4
          have p5 := keepc hbr p5
          have fz0 := keepf hbr (hl24) fz0
          have fz1 := keepf hbr (hl24) fz1
          have fz2 := keepf hbr (hl24) fz2
          have fz3 := keepf hbr (hl24) fz3
          have fz4 := keepf hbr (hl24) fz4
          have fz5 := keepf hbr (hl24) fz5
          have fp := keepf hbr hl4 fp
          have hlr : w2.heap.size < wr.heap.size := lt_of_cell p0
          by_cases hlt : k < n
          · have hlx : k < xs.length := by have := hn'.out; omega
            obtain ⟨b, off, rfl, hlo, hbh⟩ := hs.addr hlx
            obtain ⟨a1, a2, a3, a4⟩ := (hs.below hBr hhi).getReply hlx
            cases e4 : (xs[k].1 == t.1)
            · have hne := hide e4
              go_wp2
              refine wp_region_T (fun _ => True) [] [] [] [0, 1, 2, 3, 4, 5, 6, 7, 8] (by kernel_rfl) (by kernel_rfl) (by kernel_rfl) trivial ?_; simp only [pickL, List.getElem?_cons_succ, List.getElem?_cons_zero]
              go_wp2_with (first
                | ((with_reducible refine wpT_q0 ?_ ?_ ?_ ?_); (focus rfl); (focus rfl); (focus rfl); intro K hK) | ((with_reducible refine wpT_x0 ?_ ?_ ?_); (focus rfl); (focus rfl); intro K hK) | ((with_reducible refine wpT_noL ?_ ?_); (focus (first | exact wanted_no _ _ _ rfl rfl rfl | exact wanted_un _ _ _ rfl rfl rfl)); simp only [setO, List.set_cons_succ, List.set_cons_zero]) | ((with_reducible refine wpT_q1 ?_ ?_ ?_ ?_); (focus exact wanted_yes _ _ _ rfl rfl rfl); (focus rfl); (focus rfl); intro K hK) | ((with_reducible refine wpT_x1 ?_ ?_ ?_); (focus exact wanted_yes _ _ _ rfl rfl rfl); (focus rfl); intro K hK) | ((with_reducible refine wpT_nil ?_); try dsimp only)
                | fail)
              go_roundw
              case rel => exact ⟨k + 1, by omega, by go_num, hide (fun j hj hjk h => by
                by_cases h2 : j < k
                · exact hno.out j hj h2 h
                · obtain rfl : j = k := by omega
                  have := hne.out
                  simp [h] at this), hbr.drew⟩
              case measure => simp [intOf]; omega
            · have hft : Hid (fitsL r xs t = false) := hide (by rw [hfy.out, show hasFrom t.1 xs = true from List.any_eq_true.2 ⟨xs[k], List.getElem_mem hlx, e4⟩]; rfl)
              have hBd : Below w.heap.size w wr.drew := hBr.drew
              have hod : Own encReply 4 37 wr.drew w.heap.size (.slice A2 xs.length c2) xs := hor
              go_wp2
              refine wp_region_T (fun _ => True) [] [] [] [0, 1, 2, 3, 4, 5, 6, 7, 8] (by kernel_rfl) (by kernel_rfl) (by kernel_rfl) trivial ?_; simp only [pickL, List.getElem?_cons_succ, List.getElem?_cons_zero]
              go_wp2_with (first
                | ((with_reducible refine wpT_q0 ?_ ?_ ?_ ?_); (focus rfl); (focus rfl); (focus rfl); intro K hK) | ((with_reducible refine wpT_x0 ?_ ?_ ?_); (focus rfl); (focus rfl); intro K hK) | ((with_reducible refine wpT_noL ?_ ?_); (focus (first | exact wanted_no _ _ _ rfl rfl rfl | exact wanted_un _ _ _ rfl rfl rfl)); simp only [setO, List.set_cons_succ, List.set_cons_zero]) | ((with_reducible refine wpT_q1 ?_ ?_ ?_ ?_); (focus exact wanted_yes _ _ _ rfl rfl rfl); (focus rfl); (focus rfl); intro K hK) | ((with_reducible refine wpT_x1 ?_ ?_ ?_); (focus exact wanted_yes _ _ _ rfl rfl rfl); (focus rfl); intro K hK) | ((with_reducible refine wpT_nil ?_); try dsimp only)
                | fail)
              refine bodyPost_ret (v := .tuple #[.agg #[.int .i64 r.1, .int .i64 r.2.1, .int .i64 r.2.2.1, .int .i64 r.2.2.2.1, .int .i64 r.2.2.2.2, .slice A2 xs.length c2], .bool false]) (by simp [results, Try.results24, go_sem, qz0, qz1, qz2, qz3, qz4, qz5]) rfl ⟨r, A2, xs.length, c2, false, rfl, ?_, ?_, ?_, ?_, (set6_below _ _ _ _ _ _ (by omega) hBr).drew⟩
              · rw [hyes.out, hft.out]; exact (hor.keep (fun k hk => set6_keep _ _ _ _ _ _ (by have := (ho2'.lt k hk).1; omega))).drew
              · rw [hyes.out, hft.out]; rfl
              · rw [hyes.out, hft.out]; rfl
              · rw [hyes.out, hft.out]; rfl
          · obtain rfl : k = n := by omega
            have hft : Hid (fitsL r xs t = true) := hide (by
              rw [hfy.out]
              have : hasFrom t.1 xs = false := by
                simp only [hasFrom, List.any_eq_false]
                intro x hx
                obtain ⟨j, hj, rfl⟩ := List.mem_iff_getElem.1 hx
                simpa using hno.out j hj (by have := hn'.out; omega)
              rw [this]; rfl)
            have hlw1 : w1.heap.size ≤ wr.heap.size := Nat.le_trans hb2.size (Nat.le_of_lt hlr)
            go_wp2_with (at_builtin; refine wpList_app encReply_len (by omega) encReply_one rfl _ _ 30 rfl 37 _ 32 Try.underlying30 infoReply rfl w1.heap.size _ xs rfl (horL.alloc _) 0 _ _ [t] _ _ rfl rfl (sl_arr encReply_len wr #[.int .i64 t.1, .int .i64 t.2.1, .int .i64 t.2.2.1, .int .i64 t.2.2.2] _ [t] rfl |>.mono (Nat.zero_le _) (Nat.le_refl _)) ?h2 ?h3 ?_)
            case h2 => have := hn'.out; simp [maxLen]; omega
            case h3 => simp; omega
            intro v5 w5 ho5 hg5 hb5
            have hA5 := (Below.refl wr.heap.size wr).alloc (Nat.le_refl _) (.cells #[.int .i64 t.1, .int .i64 t.2.1, .int .i64 t.2.2.1, .int .i64 t.2.2.2] 37)
            have hB5 := (hBr.trans (hA5.mono hBr.size)).trans (hb5.mono hB1.size)
            obtain ⟨A5, c5, rfl, hc51, hc52, hs5⟩ := ho5.sl encReply_len
            have hk0 : ∀ k, k < w1.heap.size ∨ k = w2.heap.size → w5.heap[k]? = wr.heap[k]? := fun k hk => (hg5.block k (by simp; omega) (fun e => by have h9 := ho2'.lt k e.symm; omega)).trans (hA5.block k (by omega))
            have x0 := (World.cell?_of_block (hk0 w.heap.size (.inl (by omega)))).trans x0
            have x1 := (World.cell?_of_block (hk0 w.heap.size (.inl (by omega)))).trans x1
            have x2 := (World.cell?_of_block (hk0 w.heap.size (.inl (by omega)))).trans x2
            have x3 := (World.cell?_of_block (hk0 w.heap.size (.inl (by omega)))).trans x3
            have x4 := (World.cell?_of_block (hk0 w.heap.size (.inl (by omega)))).trans x4
            have x5 := (World.cell?_of_block (hk0 w.heap.size (.inl (by omega)))).trans x5
            have t0 := (World.cell?_of_block (hk0 (w.heap.size + 1) (.inl (by omega)))).trans t0
            have t1 := (World.cell?_of_block (hk0 (w.heap.size + 1) (.inl (by omega)))).trans t1
            have t2 := (World.cell?_of_block (hk0 (w.heap.size + 1) (.inl (by omega)))).trans t2
            have t3 := (World.cell?_of_block (hk0 (w.heap.size + 1) (.inl (by omega)))).trans t3
            have qz0 := (World.cell?_of_block (hk0 (w.heap.size + 1 + 1) (.inl (by omega)))).trans qz0
            have qz1 := (World.cell?_of_block (hk0 (w.heap.size + 1 + 1) (.inl (by omega)))).trans qz1
            have qz2 := (World.cell?_of_block (hk0 (w.heap.size + 1 + 1) (.inl (by omega)))).trans qz2
            have qz3 := (World.cell?_of_block (hk0 (w.heap.size + 1 + 1) (.inl (by omega)))).trans qz3
            have qz4 := (World.cell?_of_block (hk0 (w.heap.size + 1 + 1) (.inl (by omega)))).trans qz4
            have qz5 := (World.cell?_of_block (hk0 (w.heap.size + 1 + 1) (.inl (by omega)))).trans qz5
            have p0 := (World.cell?_of_block (hk0 w2.heap.size (.inr rfl))).trans p0
            have p1 := (World.cell?_of_block (hk0 w2.heap.size (.inr rfl))).trans p1
            have p2 := (World.cell?_of_block (hk0 w2.heap.size (.inr rfl))).trans p2
            have p3 := (World.cell?_of_block (hk0 w2.heap.size (.inr rfl))).trans p3
            have p4 := (World.cell?_of_block (hk0 w2.heap.size (.inr rfl))).trans p4
            have p5 := (World.cell?_of_block (hk0 w2.heap.size (.inr rfl))).trans p5
            have fz0 := (frozen_blk (hk0 (w.heap.size + 1 + 1) (.inl (by omega)))).trans fz0
            have fz1 := (frozen_blk (hk0 (w.heap.size + 1 + 1) (.inl (by omega)))).trans fz1
            have fz2 := (frozen_blk (hk0 (w.heap.size + 1 + 1) (.inl (by omega)))).trans fz2
            have fz3 := (frozen_blk (hk0 (w.heap.size + 1 + 1) (.inl (by omega)))).trans fz3
            have fz4 := (frozen_blk (hk0 (w.heap.size + 1 + 1) (.inl (by omega)))).trans fz4
            have fz5 := (frozen_blk (hk0 (w.heap.size + 1 + 1) (.inl (by omega)))).trans fz5
            have fp := (frozen_blk (hk0 w2.heap.size (.inr rfl))).trans fp
            have hlx : (xs ++ [t]).length = xs.length + 1 := by simp
            have hn26 : w2.heap.size ≠ w.heap.size + 1 + 1 := by omega
            have hne5 : ∀ k, (Value.slice A5 (xs ++ [t]).length c5).ownBlock = some k → k ≠ w2.heap.size ∧ k ≠ w.heap.size + 1 + 1 := fun k hk => by
              have h9 := ho5.lt k hk
              refine ⟨fun e => ?_, by omega⟩
              subst e
              obtain ⟨cur, hc⟩ := ho5.cellsAt hk
              have h10 := (hk0 w2.heap.size (.inr rfl)).trans ((hbr.block _ hl4).trans ((hb4.block _ hl3).trans hp3.out))
              rw [hc] at h10
              injection h10 with h10
              injection h10 with _ h11 _
              exact absurd h11 (by decide)
            go_wp2
            refine bodyPost_ret (v := .tuple #[.agg #[.int .i64 r.1, .int .i64 r.2.1, .int .i64 r.2.2.1, .int .i64 r.2.2.2.1, .int .i64 r.2.2.2.2, .slice A5 (xs.length + 1) c5], .bool true]) (by simp [results, Try.results24, go_sem, qz0, qz1, qz2, qz3, qz4, qz5, p0, p1, p2, p3, p4, p5]) rfl ⟨r, A5, xs.length + 1, c5, true, rfl, ?_, ?_, ?_, ?_, ?_⟩
            · rw [hyes.out, hft.out]
              have ho5' := ho5.mono hB1.size
              rw [hlx] at ho5'
              exact ho5'.keep (fun k hk => by
                have h9 := hne5 k (by rw [hlx]; exact hk)
                exact (set6_keep _ _ _ _ _ _ h9.2).trans (Below.heap_setCell _ ⟨_, 5, none⟩ _ k h9.1))
            · rw [hyes.out, hft.out]; exact hlx.symm
            · rw [hyes.out, hft.out]; rfl
            · rw [hyes.out, hft.out]; rfl
            · exact set6_below _ _ _ _ _ _ (by omega) (hB5.trans ((Below.refl _ _).setCell (by simp; omega) _))
end Go.Proofs.Ytchofialljhojaa
