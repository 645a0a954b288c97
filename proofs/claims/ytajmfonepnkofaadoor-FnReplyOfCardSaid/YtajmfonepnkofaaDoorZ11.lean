/-
  What 'IP' rests on, part 11 of 11 (texts of this seat put together: GK GH IN IO IP).
  Conditions: none.
-/
import Derived.Test.YtajmfonepnkofaaDoorZ10
import Derived.LaidMore
import Derived.LaidOnce
import Derived.LaidSub
import Derived.MakeChecks
import Derived.OpenShut
import Derived.ProofKit
import Derived.SevenTiedAt
import Derived.Stop.Joined
import Derived.Stop.LaidErr
import Derived.Test.YtajmfonepnkofaaDoorCards
import Derived.Test.YtajmfonepnkofaaDoorTie
namespace Go.Proofs.YtajmfonepnkofaaDoor
open Go.RowKit Rg
set_option linter.unusedVariables false
set_option linter.unusedSimpArgs false

/-- What 'PlayerHear' answers. -/
theorem okPl_from {r : ReqV} {xs : List ReplyT} (h : okPl r xs) {i : Nat} (hi : i < xs.length) : okRp xs[i] = true ∧ xs[i].2.1 = r.2.1 ∧ ∀ j (hj : j < i), ¬ xs[j].1 = xs[i].1 := by
  obtain ⟨_, hf⟩ := h.1 i hi
  simp only [fitsL, Bool.and_eq_true, Bool.not_eq_true', beq_iff_eq] at hf
  refine ⟨hf.1, hf.2.1, fun j hj he => ?_⟩
  rw [hasFrom_yes (by omega) hj he] at hf
  exact absurd hf.2.2 (by simp)
theorem okRp_from {t : ReplyT} (h : okRp t = true) : 0 ≤ t.1 ∧ t.1 ≤ 3 := by
  simp only [okRp, Bool.and_eq_true, inB, decide_eq_true_eq] at h
  exact h.1
theorem okPl_len {r : ReqV} {xs : List ReplyT} (h : okPl r xs) : xs.length ≤ 4 := by
  rcases Nat.lt_or_ge 4 xs.length with h5 | h5
  · exfalso
    obtain ⟨a0, _, _⟩ := okPl_from h (i := 0) (by omega)
    obtain ⟨a1, _, b1⟩ := okPl_from h (i := 1) (by omega)
    obtain ⟨a2, _, b2⟩ := okPl_from h (i := 2) (by omega)
    obtain ⟨a3, _, b3⟩ := okPl_from h (i := 3) (by omega)
    obtain ⟨a4, _, b4⟩ := okPl_from h (i := 4) (by omega)
    have c0 := okRp_from a0
    have c1 := okRp_from a1
    have c2 := okRp_from a2
    have c3 := okRp_from a3
    have c4 := okRp_from a4
    have d10 := b1 0 (by omega)
    have d20 := b2 0 (by omega)
    have d21 := b2 1 (by omega)
    have d30 := b3 0 (by omega)
    have d31 := b3 1 (by omega)
    have d32 := b3 2 (by omega)
    have d40 := b4 0 (by omega)
    have d41 := b4 1 (by omega)
    have d42 := b4 2 (by omega)
    have d43 := b4 3 (by omega)
    omega
  · exact h5
def hearF (r : ReqV) (xs : List ReplyT) (t : ReplyT) (b : Bool) : (ReqV × List ReplyT) × Bool := if b = true then ((r, xs ++ [t]), true) else ((r, xs), false)
def hearL (r : ReqV) (xs : List ReplyT) (t : ReplyT) : (ReqV × List ReplyT) × Bool := if okPl r xs then hearF r xs t (fitsL r xs t) else (((0, 0, 0, 0, 0), []), false)
theorem Own.cellsAt {α : Type} {enc : α → List Value} {sz : Nat} {e : TypeId} {w : World} {lo : Nat} {v : Value} {xs : List α} (h : Own enc sz e w lo v xs) {k : Nat} (hk : v.ownBlock = some k) : ∃ cur, w.heap[k]? = some (.cells cur e (0, 0)) := by
  rcases h with ⟨rfl, _⟩ | ⟨g, cap, cur, rfl, hg, hh, _⟩
  · simp [Value.ownBlock] at hk
  · simp [Value.ownBlock] at hk
    subst hk
    exact ⟨cur, hh⟩
theorem frozen_blk {w w' : World} {b j : Nat} (h : w'.heap[b]? = w.heap[b]?) : w'.frozen? ⟨b, j, none⟩ = w.frozen? ⟨b, j, none⟩ := by simp [World.frozen?, h]
theorem hearL_not {r : ReqV} {xs : List ReplyT} {t : ReplyT} (h : decide (okPl r xs) = false) : hearL r xs t = (((0, 0, 0, 0, 0), []), false) := by
  simp at h; simp [hearL, h]
theorem hearL_ok {r : ReqV} {xs : List ReplyT} {t : ReplyT} (h : decide (okPl r xs) = true) : hearL r xs t = hearF r xs t (fitsL r xs t) := by
  simp at h; simp [hearL, h]

set_option maxRecDepth 100000 in
set_option maxHeartbeats 4000000 in
theorem PlayerHear_c (r : ReqV) (A : Option Addr) (n c lo hi : Nat) (xs : List ReplyT) (t : ReplyT) (w : World) (hn : n = xs.length) (hb : n ≤ 1048576) (hc : n ≤ c) (hc2 : c ≤ maxLen) (hs : Sl encReply 4 w lo hi A xs) (hhi : hi ≤ w.heap.size) :
    Calls Tryd.prog 13 #[.agg #[.int .i64 r.1, .int .i64 r.2.1, .int .i64 r.2.2.1, .int .i64 r.2.2.2.1, .int .i64 r.2.2.2.2, .slice A n c], .agg #[.int .i64 t.1, .int .i64 t.2.1, .int .i64 t.2.2.1, .int .i64 t.2.2.2]] w fun e w' => ∃ r' A' n' c' b, e = .returned (.tuple #[.agg #[.int .i64 r'.1, .int .i64 r'.2.1, .int .i64 r'.2.2.1, .int .i64 r'.2.2.2.1, .int .i64 r'.2.2.2.2, .slice A' n' c'], .bool b]) ∧ Own encReply 4 30 w' w.heap.size (.slice A' n' c') (hearL r xs t).1.2 ∧ n' = (hearL r xs t).1.2.length ∧ r' = (hearL r xs t).1.1 ∧ b = (hearL r xs t).2 ∧ Below w.heap.size w w' := by
  have hn' := hide hn
  clear hn
  have hb0 : Below w.heap.size w (((w.alloc (.cells #[.int .i64 r.1, .int .i64 r.2.1, .int .i64 r.2.2.1, .int .i64 r.2.2.2.1, .int .i64 r.2.2.2.2, .slice A n c] 47)).alloc (.cells #[.int .i64 t.1, .int .i64 t.2.1, .int .i64 t.2.2.1, .int .i64 t.2.2.2] 30)).alloc (.cells #[.int .i64 0, .int .i64 0, .int .i64 0, .int .i64 0, .int .i64 0, .slice none 0 0] 47)) := (((Below.refl _ _).alloc (Nat.le_refl _) _).alloc (by simp) _).alloc (by simp; omega) _
  obtain ⟨g1, g2, g3, g4⟩ := heap3 w (.cells #[.int .i64 r.1, .int .i64 r.2.1, .int .i64 r.2.2.1, .int .i64 r.2.2.2.1, .int .i64 r.2.2.2.2, .slice A n c] 47) (.cells #[.int .i64 t.1, .int .i64 t.2.1, .int .i64 t.2.2.1, .int .i64 t.2.2.2] 30) (.cells #[.int .i64 0, .int .i64 0, .int .i64 0, .int .i64 0, .int .i64 0, .slice none 0 0] 47)
  have x0 : (((w.alloc (.cells #[.int .i64 r.1, .int .i64 r.2.1, .int .i64 r.2.2.1, .int .i64 r.2.2.2.1, .int .i64 r.2.2.2.2, .slice A n c] 47)).alloc (.cells #[.int .i64 t.1, .int .i64 t.2.1, .int .i64 t.2.2.1, .int .i64 t.2.2.2] 30)).alloc (.cells #[.int .i64 0, .int .i64 0, .int .i64 0, .int .i64 0, .int .i64 0, .slice none 0 0] 47)).cell? ⟨w.heap.size, 0, none⟩ = some (.int .i64 r.1) := by simp only [World.cell?, g1]; rfl
  have x1 : (((w.alloc (.cells #[.int .i64 r.1, .int .i64 r.2.1, .int .i64 r.2.2.1, .int .i64 r.2.2.2.1, .int .i64 r.2.2.2.2, .slice A n c] 47)).alloc (.cells #[.int .i64 t.1, .int .i64 t.2.1, .int .i64 t.2.2.1, .int .i64 t.2.2.2] 30)).alloc (.cells #[.int .i64 0, .int .i64 0, .int .i64 0, .int .i64 0, .int .i64 0, .slice none 0 0] 47)).cell? ⟨w.heap.size, 1, none⟩ = some (.int .i64 r.2.1) := by simp only [World.cell?, g1]; rfl
  have x2 : (((w.alloc (.cells #[.int .i64 r.1, .int .i64 r.2.1, .int .i64 r.2.2.1, .int .i64 r.2.2.2.1, .int .i64 r.2.2.2.2, .slice A n c] 47)).alloc (.cells #[.int .i64 t.1, .int .i64 t.2.1, .int .i64 t.2.2.1, .int .i64 t.2.2.2] 30)).alloc (.cells #[.int .i64 0, .int .i64 0, .int .i64 0, .int .i64 0, .int .i64 0, .slice none 0 0] 47)).cell? ⟨w.heap.size, 2, none⟩ = some (.int .i64 r.2.2.1) := by simp only [World.cell?, g1]; rfl
  have x3 : (((w.alloc (.cells #[.int .i64 r.1, .int .i64 r.2.1, .int .i64 r.2.2.1, .int .i64 r.2.2.2.1, .int .i64 r.2.2.2.2, .slice A n c] 47)).alloc (.cells #[.int .i64 t.1, .int .i64 t.2.1, .int .i64 t.2.2.1, .int .i64 t.2.2.2] 30)).alloc (.cells #[.int .i64 0, .int .i64 0, .int .i64 0, .int .i64 0, .int .i64 0, .slice none 0 0] 47)).cell? ⟨w.heap.size, 3, none⟩ = some (.int .i64 r.2.2.2.1) := by simp only [World.cell?, g1]; rfl
  have x4 : (((w.alloc (.cells #[.int .i64 r.1, .int .i64 r.2.1, .int .i64 r.2.2.1, .int .i64 r.2.2.2.1, .int .i64 r.2.2.2.2, .slice A n c] 47)).alloc (.cells #[.int .i64 t.1, .int .i64 t.2.1, .int .i64 t.2.2.1, .int .i64 t.2.2.2] 30)).alloc (.cells #[.int .i64 0, .int .i64 0, .int .i64 0, .int .i64 0, .int .i64 0, .slice none 0 0] 47)).cell? ⟨w.heap.size, 4, none⟩ = some (.int .i64 r.2.2.2.2) := by simp only [World.cell?, g1]; rfl
  have x5 : (((w.alloc (.cells #[.int .i64 r.1, .int .i64 r.2.1, .int .i64 r.2.2.1, .int .i64 r.2.2.2.1, .int .i64 r.2.2.2.2, .slice A n c] 47)).alloc (.cells #[.int .i64 t.1, .int .i64 t.2.1, .int .i64 t.2.2.1, .int .i64 t.2.2.2] 30)).alloc (.cells #[.int .i64 0, .int .i64 0, .int .i64 0, .int .i64 0, .int .i64 0, .slice none 0 0] 47)).cell? ⟨w.heap.size, 5, none⟩ = some (.slice A n c) := by simp only [World.cell?, g1]; rfl
  have t0 : (((w.alloc (.cells #[.int .i64 r.1, .int .i64 r.2.1, .int .i64 r.2.2.1, .int .i64 r.2.2.2.1, .int .i64 r.2.2.2.2, .slice A n c] 47)).alloc (.cells #[.int .i64 t.1, .int .i64 t.2.1, .int .i64 t.2.2.1, .int .i64 t.2.2.2] 30)).alloc (.cells #[.int .i64 0, .int .i64 0, .int .i64 0, .int .i64 0, .int .i64 0, .slice none 0 0] 47)).cell? ⟨w.heap.size + 1, 0, none⟩ = some (.int .i64 t.1) := by simp only [World.cell?, g2]; rfl
  have t1 : (((w.alloc (.cells #[.int .i64 r.1, .int .i64 r.2.1, .int .i64 r.2.2.1, .int .i64 r.2.2.2.1, .int .i64 r.2.2.2.2, .slice A n c] 47)).alloc (.cells #[.int .i64 t.1, .int .i64 t.2.1, .int .i64 t.2.2.1, .int .i64 t.2.2.2] 30)).alloc (.cells #[.int .i64 0, .int .i64 0, .int .i64 0, .int .i64 0, .int .i64 0, .slice none 0 0] 47)).cell? ⟨w.heap.size + 1, 1, none⟩ = some (.int .i64 t.2.1) := by simp only [World.cell?, g2]; rfl
  have t2 : (((w.alloc (.cells #[.int .i64 r.1, .int .i64 r.2.1, .int .i64 r.2.2.1, .int .i64 r.2.2.2.1, .int .i64 r.2.2.2.2, .slice A n c] 47)).alloc (.cells #[.int .i64 t.1, .int .i64 t.2.1, .int .i64 t.2.2.1, .int .i64 t.2.2.2] 30)).alloc (.cells #[.int .i64 0, .int .i64 0, .int .i64 0, .int .i64 0, .int .i64 0, .slice none 0 0] 47)).cell? ⟨w.heap.size + 1, 2, none⟩ = some (.int .i64 t.2.2.1) := by simp only [World.cell?, g2]; rfl
  have t3 : (((w.alloc (.cells #[.int .i64 r.1, .int .i64 r.2.1, .int .i64 r.2.2.1, .int .i64 r.2.2.2.1, .int .i64 r.2.2.2.2, .slice A n c] 47)).alloc (.cells #[.int .i64 t.1, .int .i64 t.2.1, .int .i64 t.2.2.1, .int .i64 t.2.2.2] 30)).alloc (.cells #[.int .i64 0, .int .i64 0, .int .i64 0, .int .i64 0, .int .i64 0, .slice none 0 0] 47)).cell? ⟨w.heap.size + 1, 3, none⟩ = some (.int .i64 t.2.2.2) := by simp only [World.cell?, g2]; rfl
  have qz0 : (((w.alloc (.cells #[.int .i64 r.1, .int .i64 r.2.1, .int .i64 r.2.2.1, .int .i64 r.2.2.2.1, .int .i64 r.2.2.2.2, .slice A n c] 47)).alloc (.cells #[.int .i64 t.1, .int .i64 t.2.1, .int .i64 t.2.2.1, .int .i64 t.2.2.2] 30)).alloc (.cells #[.int .i64 0, .int .i64 0, .int .i64 0, .int .i64 0, .int .i64 0, .slice none 0 0] 47)).cell? ⟨w.heap.size + 1 + 1, 0, none⟩ = some (.int .i64 0) := by simp only [World.cell?, g3]; rfl
  have qz1 : (((w.alloc (.cells #[.int .i64 r.1, .int .i64 r.2.1, .int .i64 r.2.2.1, .int .i64 r.2.2.2.1, .int .i64 r.2.2.2.2, .slice A n c] 47)).alloc (.cells #[.int .i64 t.1, .int .i64 t.2.1, .int .i64 t.2.2.1, .int .i64 t.2.2.2] 30)).alloc (.cells #[.int .i64 0, .int .i64 0, .int .i64 0, .int .i64 0, .int .i64 0, .slice none 0 0] 47)).cell? ⟨w.heap.size + 1 + 1, 1, none⟩ = some (.int .i64 0) := by simp only [World.cell?, g3]; rfl
  have qz2 : (((w.alloc (.cells #[.int .i64 r.1, .int .i64 r.2.1, .int .i64 r.2.2.1, .int .i64 r.2.2.2.1, .int .i64 r.2.2.2.2, .slice A n c] 47)).alloc (.cells #[.int .i64 t.1, .int .i64 t.2.1, .int .i64 t.2.2.1, .int .i64 t.2.2.2] 30)).alloc (.cells #[.int .i64 0, .int .i64 0, .int .i64 0, .int .i64 0, .int .i64 0, .slice none 0 0] 47)).cell? ⟨w.heap.size + 1 + 1, 2, none⟩ = some (.int .i64 0) := by simp only [World.cell?, g3]; rfl
  have qz3 : (((w.alloc (.cells #[.int .i64 r.1, .int .i64 r.2.1, .int .i64 r.2.2.1, .int .i64 r.2.2.2.1, .int .i64 r.2.2.2.2, .slice A n c] 47)).alloc (.cells #[.int .i64 t.1, .int .i64 t.2.1, .int .i64 t.2.2.1, .int .i64 t.2.2.2] 30)).alloc (.cells #[.int .i64 0, .int .i64 0, .int .i64 0, .int .i64 0, .int .i64 0, .slice none 0 0] 47)).cell? ⟨w.heap.size + 1 + 1, 3, none⟩ = some (.int .i64 0) := by simp only [World.cell?, g3]; rfl
  have qz4 : (((w.alloc (.cells #[.int .i64 r.1, .int .i64 r.2.1, .int .i64 r.2.2.1, .int .i64 r.2.2.2.1, .int .i64 r.2.2.2.2, .slice A n c] 47)).alloc (.cells #[.int .i64 t.1, .int .i64 t.2.1, .int .i64 t.2.2.1, .int .i64 t.2.2.2] 30)).alloc (.cells #[.int .i64 0, .int .i64 0, .int .i64 0, .int .i64 0, .int .i64 0, .slice none 0 0] 47)).cell? ⟨w.heap.size + 1 + 1, 4, none⟩ = some (.int .i64 0) := by simp only [World.cell?, g3]; rfl
  have qz5 : (((w.alloc (.cells #[.int .i64 r.1, .int .i64 r.2.1, .int .i64 r.2.2.1, .int .i64 r.2.2.2.1, .int .i64 r.2.2.2.2, .slice A n c] 47)).alloc (.cells #[.int .i64 t.1, .int .i64 t.2.1, .int .i64 t.2.2.1, .int .i64 t.2.2.2] 30)).alloc (.cells #[.int .i64 0, .int .i64 0, .int .i64 0, .int .i64 0, .int .i64 0, .slice none 0 0] 47)).cell? ⟨w.heap.size + 1 + 1, 5, none⟩ = some (.slice none 0 0) := by simp only [World.cell?, g3]; rfl
  have fz0 : (((w.alloc (.cells #[.int .i64 r.1, .int .i64 r.2.1, .int .i64 r.2.2.1, .int .i64 r.2.2.2.1, .int .i64 r.2.2.2.2, .slice A n c] 47)).alloc (.cells #[.int .i64 t.1, .int .i64 t.2.1, .int .i64 t.2.2.1, .int .i64 t.2.2.2] 30)).alloc (.cells #[.int .i64 0, .int .i64 0, .int .i64 0, .int .i64 0, .int .i64 0, .slice none 0 0] 47)).frozen? ⟨w.heap.size + 1 + 1, 0, none⟩ = false := by simp only [World.frozen?, g3]; simp
  have fz1 : (((w.alloc (.cells #[.int .i64 r.1, .int .i64 r.2.1, .int .i64 r.2.2.1, .int .i64 r.2.2.2.1, .int .i64 r.2.2.2.2, .slice A n c] 47)).alloc (.cells #[.int .i64 t.1, .int .i64 t.2.1, .int .i64 t.2.2.1, .int .i64 t.2.2.2] 30)).alloc (.cells #[.int .i64 0, .int .i64 0, .int .i64 0, .int .i64 0, .int .i64 0, .slice none 0 0] 47)).frozen? ⟨w.heap.size + 1 + 1, 1, none⟩ = false := by simp only [World.frozen?, g3]; simp
  have fz2 : (((w.alloc (.cells #[.int .i64 r.1, .int .i64 r.2.1, .int .i64 r.2.2.1, .int .i64 r.2.2.2.1, .int .i64 r.2.2.2.2, .slice A n c] 47)).alloc (.cells #[.int .i64 t.1, .int .i64 t.2.1, .int .i64 t.2.2.1, .int .i64 t.2.2.2] 30)).alloc (.cells #[.int .i64 0, .int .i64 0, .int .i64 0, .int .i64 0, .int .i64 0, .slice none 0 0] 47)).frozen? ⟨w.heap.size + 1 + 1, 2, none⟩ = false := by simp only [World.frozen?, g3]; simp
  have fz3 : (((w.alloc (.cells #[.int .i64 r.1, .int .i64 r.2.1, .int .i64 r.2.2.1, .int .i64 r.2.2.2.1, .int .i64 r.2.2.2.2, .slice A n c] 47)).alloc (.cells #[.int .i64 t.1, .int .i64 t.2.1, .int .i64 t.2.2.1, .int .i64 t.2.2.2] 30)).alloc (.cells #[.int .i64 0, .int .i64 0, .int .i64 0, .int .i64 0, .int .i64 0, .slice none 0 0] 47)).frozen? ⟨w.heap.size + 1 + 1, 3, none⟩ = false := by simp only [World.frozen?, g3]; simp
  have fz4 : (((w.alloc (.cells #[.int .i64 r.1, .int .i64 r.2.1, .int .i64 r.2.2.1, .int .i64 r.2.2.2.1, .int .i64 r.2.2.2.2, .slice A n c] 47)).alloc (.cells #[.int .i64 t.1, .int .i64 t.2.1, .int .i64 t.2.2.1, .int .i64 t.2.2.2] 30)).alloc (.cells #[.int .i64 0, .int .i64 0, .int .i64 0, .int .i64 0, .int .i64 0, .slice none 0 0] 47)).frozen? ⟨w.heap.size + 1 + 1, 4, none⟩ = false := by simp only [World.frozen?, g3]; simp
  have fz5 : (((w.alloc (.cells #[.int .i64 r.1, .int .i64 r.2.1, .int .i64 r.2.2.1, .int .i64 r.2.2.2.1, .int .i64 r.2.2.2.2, .slice A n c] 47)).alloc (.cells #[.int .i64 t.1, .int .i64 t.2.1, .int .i64 t.2.2.1, .int .i64 t.2.2.2] 30)).alloc (.cells #[.int .i64 0, .int .i64 0, .int .i64 0, .int .i64 0, .int .i64 0, .slice none 0 0] 47)).frozen? ⟨w.heap.size + 1 + 1, 5, none⟩ = false := by simp only [World.frozen?, g3]; simp
  have hl0 : w.heap.size + 1 + 1 < (((w.alloc (.cells #[.int .i64 r.1, .int .i64 r.2.1, .int .i64 r.2.2.1, .int .i64 r.2.2.2.1, .int .i64 r.2.2.2.2, .slice A n c] 47)).alloc (.cells #[.int .i64 t.1, .int .i64 t.2.1, .int .i64 t.2.2.1, .int .i64 t.2.2.2] 30)).alloc (.cells #[.int .i64 0, .int .i64 0, .int .i64 0, .int .i64 0, .int .i64 0, .slice none 0 0] 47)).heap.size := by rw [g4]; omega
  clear g1 g2 g3 g4
  go_enter Tryd.func13, Tryd.ntmps13
  go_wp2_with fail
  generalize (((w.alloc (.cells #[.int .i64 r.1, .int .i64 r.2.1, .int .i64 r.2.2.1, .int .i64 r.2.2.2.1, .int .i64 r.2.2.2.2, .slice A n c] 47)).alloc (.cells #[.int .i64 t.1, .int .i64 t.2.1, .int .i64 t.2.2.1, .int .i64 t.2.2.2] 30)).alloc (.cells #[.int .i64 0, .int .i64 0, .int .i64 0, .int .i64 0, .int .i64 0, .slice none 0 0] 47)) = w0 at *
  refine (PlayerOk_c r A n c lo hi xs w0 hn'.out hb hc hc2 (hs.below hb0 hhi) (Nat.le_trans hhi hb0.size)).mono ?_
  rintro e w1 ⟨rfl, hb1⟩
  have hB1 := hb0.trans (hb1.mono hb0.size)
  have x0 := keepc hb1 x0
  have x1 := keepc hb1 x1
  have x2 := keepc hb1 x2
  have x3 := keepc hb1 x3
  have x4 := keepc hb1 x4
  have x5 := keepc hb1 x5
  have t0 := keepc hb1 t0
  have t1 := keepc hb1 t1
  have t2 := keepc hb1 t2
  have t3 := keepc hb1 t3
  have qz0 := keepc hb1 qz0
  have qz1 := keepc hb1 qz1
  have qz2 := keepc hb1 qz2
  have qz3 := keepc hb1 qz3
  have qz4 := keepc hb1 qz4
  have qz5 := keepc hb1 qz5
  have fz0 := keepf hb1 (hl0) fz0
  have fz1 := keepf hb1 (hl0) fz1
  have fz2 := keepf hb1 (hl0) fz2
  have fz3 := keepf hb1 (hl0) fz3
  have fz4 := keepf hb1 (hl0) fz4
  have fz5 := keepf hb1 (hl0) fz5
  have hl1 : w.heap.size + 1 + 1 < w1.heap.size := lt_of_cell qz0
  cases e1 : decide (okPl r xs)
  · have hno := hide (hearL_not (t := t) e1)
    go_wp2
    refine bodyPost_ret (v := .tuple #[.agg #[.int .i64 0, .int .i64 0, .int .i64 0, .int .i64 0, .int .i64 0, .slice none 0 0], .bool false]) (by simp [results, Tryd.results13, go_sem, qz0, qz1, qz2, qz3, qz4, qz5]) rfl ⟨(0, 0, 0, 0, 0), none, 0, 0, false, rfl, ?_, ?_, ?_, ?_, set6_below _ _ _ _ _ _ (by omega) hB1⟩
    · rw [hno.out]; exact Own.nil_ _ _ _ _ _
    · rw [hno.out]; rfl
    · rw [hno.out]
    · rw [hno.out]
  · have hyes := hide (hearL_ok (t := t) e1)
    have hl4x := hide (okPl_len (of_decide_eq_true e1))
    go_wp2_with fail
    refine (copyOfP_c r A n c lo hi xs w1 hn'.out hb (hs.below hB1 hhi) (Nat.le_trans hhi hB1.size)).mono ?_
    rintro e w2 ⟨A2, c2, rfl, ho2', hb2⟩
    have hB2 := hB1.trans (hb2.mono hB1.size)
    have ho2 := ho2'.mono hB1.size
    have x0 := keepc hb2 x0
    have x1 := keepc hb2 x1
    have x2 := keepc hb2 x2
    have x3 := keepc hb2 x3
    have x4 := keepc hb2 x4
    have x5 := keepc hb2 x5
    have t0 := keepc hb2 t0
    have t1 := keepc hb2 t1
    have t2 := keepc hb2 t2
    have t3 := keepc hb2 t3
    have qz0 := keepc hb2 qz0
    have qz1 := keepc hb2 qz1
    have qz2 := keepc hb2 qz2
    have qz3 := keepc hb2 qz3
    have qz4 := keepc hb2 qz4
    have qz5 := keepc hb2 qz5
    have fz0 := keepf hb2 (hl1) fz0
    have fz1 := keepf hb2 (hl1) fz1
    have fz2 := keepf hb2 (hl1) fz2
    have fz3 := keepf hb2 (hl1) fz3
    have fz4 := keepf hb2 (hl1) fz4
    have fz5 := keepf hb2 (hl1) fz5
    have hl2 : w.heap.size + 1 + 1 < w2.heap.size := lt_of_cell qz0
    have hA3 := (Below.refl w2.heap.size w2).alloc (Nat.le_refl _) (.cells #[.int .i64 r.1, .int .i64 r.2.1, .int .i64 r.2.2.1, .int .i64 r.2.2.2.1, .int .i64 r.2.2.2.2, .slice A2 xs.length c2] 47)
    have hB3 := hB2.trans (hA3.mono hB2.size)
    have ho3 := ho2.alloc (.cells #[.int .i64 r.1, .int .i64 r.2.1, .int .i64 r.2.2.1, .int .i64 r.2.2.2.1, .int .i64 r.2.2.2.2, .slice A2 xs.length c2] 47)
    have ho3L := ho2'.alloc (.cells #[.int .i64 r.1, .int .i64 r.2.1, .int .i64 r.2.2.1, .int .i64 r.2.2.2.1, .int .i64 r.2.2.2.2, .slice A2 xs.length c2] 47)
    have hp3 : Hid ((w2.alloc (.cells #[.int .i64 r.1, .int .i64 r.2.1, .int .i64 r.2.2.1, .int .i64 r.2.2.2.1, .int .i64 r.2.2.2.2, .slice A2 xs.length c2] 47)).heap[w2.heap.size]? = some (.cells #[.int .i64 r.1, .int .i64 r.2.1, .int .i64 r.2.2.1, .int .i64 r.2.2.2.1, .int .i64 r.2.2.2.2, .slice A2 xs.length c2] 47)) := hide (heap_alloc_new w2 _)
    have x0 := keepc hA3 x0
    have x1 := keepc hA3 x1
    have x2 := keepc hA3 x2
    have x3 := keepc hA3 x3
    have x4 := keepc hA3 x4
    have x5 := keepc hA3 x5
    have t0 := keepc hA3 t0
    have t1 := keepc hA3 t1
    have t2 := keepc hA3 t2
    have t3 := keepc hA3 t3
    have qz0 := keepc hA3 qz0
    have qz1 := keepc hA3 qz1
    have qz2 := keepc hA3 qz2
    have qz3 := keepc hA3 qz3
    have qz4 := keepc hA3 qz4
    have qz5 := keepc hA3 qz5
    have fz0 := keepf hA3 (hl2) fz0
    have fz1 := keepf hA3 (hl2) fz1
    have fz2 := keepf hA3 (hl2) fz2
    have fz3 := keepf hA3 (hl2) fz3
    have fz4 := keepf hA3 (hl2) fz4
    have fz5 := keepf hA3 (hl2) fz5
    have p0 : (w2.alloc (.cells #[.int .i64 r.1, .int .i64 r.2.1, .int .i64 r.2.2.1, .int .i64 r.2.2.2.1, .int .i64 r.2.2.2.2, .slice A2 xs.length c2] 47)).cell? ⟨w2.heap.size, 0, none⟩ = some (.int .i64 r.1) := by simp
    have p1 : (w2.alloc (.cells #[.int .i64 r.1, .int .i64 r.2.1, .int .i64 r.2.2.1, .int .i64 r.2.2.2.1, .int .i64 r.2.2.2.2, .slice A2 xs.length c2] 47)).cell? ⟨w2.heap.size, 1, none⟩ = some (.int .i64 r.2.1) := by simp
    have p2 : (w2.alloc (.cells #[.int .i64 r.1, .int .i64 r.2.1, .int .i64 r.2.2.1, .int .i64 r.2.2.2.1, .int .i64 r.2.2.2.2, .slice A2 xs.length c2] 47)).cell? ⟨w2.heap.size, 2, none⟩ = some (.int .i64 r.2.2.1) := by simp
    have p3 : (w2.alloc (.cells #[.int .i64 r.1, .int .i64 r.2.1, .int .i64 r.2.2.1, .int .i64 r.2.2.2.1, .int .i64 r.2.2.2.2, .slice A2 xs.length c2] 47)).cell? ⟨w2.heap.size, 3, none⟩ = some (.int .i64 r.2.2.2.1) := by simp
    have p4 : (w2.alloc (.cells #[.int .i64 r.1, .int .i64 r.2.1, .int .i64 r.2.2.1, .int .i64 r.2.2.2.1, .int .i64 r.2.2.2.2, .slice A2 xs.length c2] 47)).cell? ⟨w2.heap.size, 4, none⟩ = some (.int .i64 r.2.2.2.2) := by simp
    have p5 : (w2.alloc (.cells #[.int .i64 r.1, .int .i64 r.2.1, .int .i64 r.2.2.1, .int .i64 r.2.2.2.1, .int .i64 r.2.2.2.2, .slice A2 xs.length c2] 47)).cell? ⟨w2.heap.size, 5, none⟩ = some (.slice A2 xs.length c2) := by simp
    have fp : (w2.alloc (.cells #[.int .i64 r.1, .int .i64 r.2.1, .int .i64 r.2.2.1, .int .i64 r.2.2.2.1, .int .i64 r.2.2.2.2, .slice A2 xs.length c2] 47)).frozen? ⟨w2.heap.size, 5, none⟩ = false := by simp only [World.frozen?, heap_alloc_new]; simp
    have hl3 : w2.heap.size < (w2.alloc (.cells #[.int .i64 r.1, .int .i64 r.2.1, .int .i64 r.2.2.1, .int .i64 r.2.2.2.1, .int .i64 r.2.2.2.2, .slice A2 xs.length c2] 47)).heap.size := by simp
    go_wp2_with fail
    generalize w2.alloc (.cells #[.int .i64 r.1, .int .i64 r.2.1, .int .i64 r.2.2.1, .int .i64 r.2.2.2.1, .int .i64 r.2.2.2.2, .slice A2 xs.length c2] 47) = w3 at *
    refine (fits_c r A n c lo hi xs t w3 hn'.out hb (hs.below hB3 hhi) (Nat.le_trans hhi hB3.size)).mono ?_
    rintro e w4 ⟨rfl, hb4⟩
    have hB4 := hB3.trans (hb4.mono hB3.size)
    have ho4 := ho3.below hb4 (Nat.le_refl _)
    have ho4L := ho3L.below hb4 (Nat.le_refl _)
    have hl23 : w.heap.size + 1 + 1 < w3.heap.size := by omega
    have x0 := keepc hb4 x0
    have x1 := keepc hb4 x1
    have x2 := keepc hb4 x2
    have x3 := keepc hb4 x3
    have x4 := keepc hb4 x4
    have x5 := keepc hb4 x5
    have t0 := keepc hb4 t0
    have t1 := keepc hb4 t1
    have t2 := keepc hb4 t2
    have t3 := keepc hb4 t3
    have qz0 := keepc hb4 qz0
    have qz1 := keepc hb4 qz1
    have qz2 := keepc hb4 qz2
    have qz3 := keepc hb4 qz3
    have qz4 := keepc hb4 qz4
    have qz5 := keepc hb4 qz5
    have p0 := keepc hb4 p0
    have p1 := keepc hb4 p1
    have p2 := keepc hb4 p2
    have p3 := keepc hb4 p3
    have p4 := keepc hb4 p4
    have p5 := keepc hb4 p5
    have fz0 := keepf hb4 (hl23) fz0
    have fz1 := keepf hb4 (hl23) fz1
    have fz2 := keepf hb4 (hl23) fz2
    have fz3 := keepf hb4 (hl23) fz3
    have fz4 := keepf hb4 (hl23) fz4
    have fz5 := keepf hb4 (hl23) fz5
    have fp := keepf hb4 hl3 fp
    have hl4 : w2.heap.size < w4.heap.size := lt_of_cell p0
    cases e2 : fitsL r xs t
    · have hft : Hid (fitsL r xs t = false) := hide e2
      go_wp2
      refine bodyPost_ret (v := .tuple #[.agg #[.int .i64 r.1, .int .i64 r.2.1, .int .i64 r.2.2.1, .int .i64 r.2.2.2.1, .int .i64 r.2.2.2.2, .slice A2 xs.length c2], .bool false]) (by simp [results, Tryd.results13, go_sem, qz0, qz1, qz2, qz3, qz4, qz5]) rfl ⟨r, A2, xs.length, c2, false, rfl, ?_, ?_, ?_, ?_, set6_below _ _ _ _ _ _ (by omega) hB4⟩
      · rw [hyes.out, hft.out]; exact ho4.keep (fun k hk => set6_keep _ _ _ _ _ _ (by have := (ho2'.lt k hk).1; omega))
      · rw [hyes.out, hft.out]; rfl
      · rw [hyes.out, hft.out]; rfl
      · rw [hyes.out, hft.out]; rfl
    · have hft : Hid (fitsL r xs t = true) := hide e2
      have hlw1 : w1.heap.size ≤ w4.heap.size := Nat.le_trans hb2.size (Nat.le_of_lt hl4)
      go_wp2_with (at_builtin; refine wpList_app encReply_len (by omega) encReply_one rfl _ _ 45 rfl 30 _ 32 Tryd.underlying45 infoReply rfl w1.heap.size _ xs rfl (ho4L.alloc _) 0 _ _ [t] _ _ rfl rfl (sl_arr encReply_len w4 #[.int .i64 t.1, .int .i64 t.2.1, .int .i64 t.2.2.1, .int .i64 t.2.2.2] _ [t] rfl |>.mono (Nat.zero_le _) (Nat.le_refl _)) ?h2 ?h3 ?_)
      case h2 => have := hn'.out; simp [maxLen]; omega
      case h3 => simp; omega
      intro v5 w5 ho5 hg5 hb5
      have hA5 := (Below.refl w4.heap.size w4).alloc (Nat.le_refl _) (.cells #[.int .i64 t.1, .int .i64 t.2.1, .int .i64 t.2.2.1, .int .i64 t.2.2.2] 30)
      have hB5 := (hB4.trans (hA5.mono hB4.size)).trans (hb5.mono hB1.size)
      have hlw1 : w1.heap.size ≤ w4.heap.size := Nat.le_trans hb2.size (Nat.le_of_lt hl4)
      obtain ⟨A5, c5, rfl, hc51, hc52, hs5⟩ := ho5.sl encReply_len
      have hk0 : ∀ k, k < w1.heap.size ∨ k = w2.heap.size → w5.heap[k]? = w4.heap[k]? := fun k hk => (hg5.block k (by simp; omega) (fun e => by have h9 := ho2'.lt k e.symm; omega)).trans (hA5.block k (by omega))
      have x0 := (World.cell?_of_block (hk0 w.heap.size (.inl (by omega)))).trans x0
      have x1 := (World.cell?_of_block (hk0 w.heap.size (.inl (by omega)))).trans x1
      have x2 := (World.cell?_of_block (hk0 w.heap.size (.inl (by omega)))).trans x2
      have x3 := (World.cell?_of_block (hk0 w.heap.size (.inl (by omega)))).trans x3
      have x4 := (World.cell?_of_block (hk0 w.heap.size (.inl (by omega)))).trans x4
      have x5 := (World.cell?_of_block (hk0 w.heap.size (.inl (by omega)))).trans x5
      have t0 := (World.cell?_of_block (hk0 (w.heap.size + 1) (.inl (by omega)))).trans t0
      have t1 := (World.cell?_of_block (hk0 (w.heap.size + 1) (.inl (by omega)))).trans t1
      have t2 := (World.cell?_of_block (hk0 (w.heap.size + 1) (.inl (by omega)))).trans t2
      have t3 := (World.cell?_of_block (hk0 (w.heap.size + 1) (.inl (by omega)))).trans t3
      have qz0 := (World.cell?_of_block (hk0 (w.heap.size + 1 + 1) (.inl (by omega)))).trans qz0
      have qz1 := (World.cell?_of_block (hk0 (w.heap.size + 1 + 1) (.inl (by omega)))).trans qz1
      have qz2 := (World.cell?_of_block (hk0 (w.heap.size + 1 + 1) (.inl (by omega)))).trans qz2
      have qz3 := (World.cell?_of_block (hk0 (w.heap.size + 1 + 1) (.inl (by omega)))).trans qz3
      have qz4 := (World.cell?_of_block (hk0 (w.heap.size + 1 + 1) (.inl (by omega)))).trans qz4
      have qz5 := (World.cell?_of_block (hk0 (w.heap.size + 1 + 1) (.inl (by omega)))).trans qz5
      have p0 := (World.cell?_of_block (hk0 w2.heap.size (.inr rfl))).trans p0
      have p1 := (World.cell?_of_block (hk0 w2.heap.size (.inr rfl))).trans p1
      have p2 := (World.cell?_of_block (hk0 w2.heap.size (.inr rfl))).trans p2
      have p3 := (World.cell?_of_block (hk0 w2.heap.size (.inr rfl))).trans p3
      have p4 := (World.cell?_of_block (hk0 w2.heap.size (.inr rfl))).trans p4
      have p5 := (World.cell?_of_block (hk0 w2.heap.size (.inr rfl))).trans p5
      have fz0 := (frozen_blk (hk0 (w.heap.size + 1 + 1) (.inl (by omega)))).trans fz0
      have fz1 := (frozen_blk (hk0 (w.heap.size + 1 + 1) (.inl (by omega)))).trans fz1
      have fz2 := (frozen_blk (hk0 (w.heap.size + 1 + 1) (.inl (by omega)))).trans fz2
      have fz3 := (frozen_blk (hk0 (w.heap.size + 1 + 1) (.inl (by omega)))).trans fz3
      have fz4 := (frozen_blk (hk0 (w.heap.size + 1 + 1) (.inl (by omega)))).trans fz4
      have fz5 := (frozen_blk (hk0 (w.heap.size + 1 + 1) (.inl (by omega)))).trans fz5
      have fp := (frozen_blk (hk0 w2.heap.size (.inr rfl))).trans fp
      have hl5 : w2.heap.size < w5.heap.size := lt_of_cell p0
      have hlx : (xs ++ [t]).length = xs.length + 1 := by simp
      go_wp2_with fail
      refine (cloneReply_c A5 (xs.length + 1) c5 _ _ (xs ++ [t]) w5 hlx.symm (by have := hl4x.out; omega) hs5 (Nat.le_refl _)).mono ?_
      rintro e w6 ⟨A6, rfl, ho6, hb6⟩
      have hB6 := hB5.trans (hb6.mono hB5.size)
      have hl25 : w.heap.size + 1 + 1 < w5.heap.size := by omega
      have x0 := keepc hb6 x0
      have x1 := keepc hb6 x1
      have x2 := keepc hb6 x2
      have x3 := keepc hb6 x3
      have x4 := keepc hb6 x4
      have x5 := keepc hb6 x5
      have t0 := keepc hb6 t0
      have t1 := keepc hb6 t1
      have t2 := keepc hb6 t2
      have t3 := keepc hb6 t3
      have qz0 := keepc hb6 qz0
      have qz1 := keepc hb6 qz1
      have qz2 := keepc hb6 qz2
      have qz3 := keepc hb6 qz3
      have qz4 := keepc hb6 qz4
      have qz5 := keepc hb6 qz5
      have p0 := keepc hb6 p0
      have p1 := keepc hb6 p1
      have p2 := keepc hb6 p2
      have p3 := keepc hb6 p3
      have p4 := keepc hb6 p4
      have p5 := keepc hb6 p5
      have fz0 := keepf hb6 (hl25) fz0
      have fz1 := keepf hb6 (hl25) fz1
      have fz2 := keepf hb6 (hl25) fz2
      have fz3 := keepf hb6 (hl25) fz3
      have fz4 := keepf hb6 (hl25) fz4
      have fz5 := keepf hb6 (hl25) fz5
      have fp := keepf hb6 hl5 fp
      have hn26 : w2.heap.size ≠ w.heap.size + 1 + 1 := by omega
      go_wp2
      refine bodyPost_ret (v := .tuple #[.agg #[.int .i64 r.1, .int .i64 r.2.1, .int .i64 r.2.2.1, .int .i64 r.2.2.2.1, .int .i64 r.2.2.2.2, .slice A6 (xs.length + 1) (xs.length + 1)], .bool true]) (by simp [results, Tryd.results13, go_sem, qz0, qz1, qz2, qz3, qz4, qz5, p0, p1, p2, p3, p4, p5]) rfl ⟨r, A6, xs.length + 1, xs.length + 1, true, rfl, ?_, ?_, ?_, ?_, ?_⟩
      · rw [hyes.out, hft.out]
        exact (ho6.mono hB5.size).keep (fun k hk => (set6_keep _ _ _ _ _ _ (by have := (ho6.lt k hk).1; omega)).trans (Below.heap_setCell _ ⟨_, 5, none⟩ _ k (by have := (ho6.lt k hk).1; simp; omega)))
      · rw [hyes.out, hft.out]; exact hlx.symm
      · rw [hyes.out, hft.out]; rfl
      · rw [hyes.out, hft.out]; rfl
      · exact set6_below _ _ _ _ _ _ (by omega) (hB6.trans ((Below.refl _ _).setCell (by simp; omega) _))
end Go.Proofs.YtajmfonepnkofaaDoor
namespace Go.Proofs.YtajmfonepnkofaaDoor
open Go.RowKit Rg
set_option linter.unusedVariables false
set_option linter.unusedSimpArgs false

/-- Two answers alike. -/
def alike (x t : ReplyT) : Bool := (x.2.2.1 == t.2.2.1) && (x.2.2.2 == t.2.2.2)
/-- How many answered so. -/
def most (xs : List ReplyT) (t : ReplyT) : Nat := (xs.filter fun x => alike x t).length
theorem most_le (xs : List ReplyT) (t : ReplyT) : most xs t ≤ xs.length := List.length_filter_le _ _
theorem most_step {xs : List ReplyT} {t : ReplyT} {k m : Nat} (hk : k < xs.length) (h : most xs t = m + most (xs.drop k) t) : most xs t = (if alike xs[k] t = true then m + 1 else m) + most (xs.drop (k + 1)) t := by
  rw [h, most, List.drop_eq_getElem_cons hk, List.filter_cons]
  split
  · simp [most]; omega
  · simp [most]
/-- What 'PlayerSure' answers. -/
def sureF (xs : List ReplyT) (ys : List ReplyT) : ReplyT × Bool := match ys.find? (fun t => decide (2 ≤ most xs t)) with
  | some t => (t, true)
  | none => ((0, 0, 0, 0), false)
def sureL (r : ReqV) (xs : List ReplyT) : ReplyT × Bool := if okPl r xs then sureF xs xs else ((0, 0, 0, 0), false)
theorem sureF_no {xs : List ReplyT} {k : Nat} (hk : k < xs.length) (h : ¬ 2 ≤ most xs xs[k]) : sureF xs (xs.drop k) = sureF xs (xs.drop (k + 1)) := by
  unfold sureF
  rw [List.drop_eq_getElem_cons hk, List.find?_cons]
  simp [h]
theorem sureF_yes {xs : List ReplyT} {k : Nat} (hk : k < xs.length) (h : 2 ≤ most xs xs[k]) : sureF xs (xs.drop k) = (xs[k], true) := by
  unfold sureF
  rw [List.drop_eq_getElem_cons hk, List.find?_cons]
  simp [h]
theorem sureF_end {xs : List ReplyT} {k : Nat} (hk : xs.length ≤ k) : sureF xs (xs.drop k) = ((0, 0, 0, 0), false) := by
  unfold sureF
  rw [List.drop_of_length_le hk]
  rfl
theorem sureL_not {r : ReqV} {xs : List ReplyT} (h : decide (okPl r xs) = false) : sureL r xs = ((0, 0, 0, 0), false) := by
  simp at h; simp [sureL, h]
theorem sureL_ok {r : ReqV} {xs : List ReplyT} (h : decide (okPl r xs) = true) : sureL r xs = sureF xs (xs.drop 0) := by
  simp at h; simp [sureL, h]

set_option maxHeartbeats 4000000 in
theorem PlayerSure_c (r : ReqV) (A : Option Addr) (n c lo hi : Nat) (xs : List ReplyT) (w : World) (hn : n = xs.length) (hb : n ≤ 1048576) (hc : n ≤ c) (hc2 : c ≤ maxLen) (hs : Sl encReply 4 w lo hi A xs) (hhi : hi ≤ w.heap.size) :
    Calls Tryd.prog 14 #[.agg #[.int .i64 r.1, .int .i64 r.2.1, .int .i64 r.2.2.1, .int .i64 r.2.2.2.1, .int .i64 r.2.2.2.2, .slice A n c]] w fun e w' => e = .returned (.tuple #[.agg #[.int .i64 (sureL r xs).1.1, .int .i64 (sureL r xs).1.2.1, .int .i64 (sureL r xs).1.2.2.1, .int .i64 (sureL r xs).1.2.2.2], .bool (sureL r xs).2]) ∧ Below w.heap.size w w' := by
  have hn' := hide hn
  clear hn
  have hb0 : Below w.heap.size w ((w.alloc (.cells #[.int .i64 r.1, .int .i64 r.2.1, .int .i64 r.2.2.1, .int .i64 r.2.2.2.1, .int .i64 r.2.2.2.2, .slice A n c] 47)).alloc (.cells #[.int .i64 0, .int .i64 0, .int .i64 0, .int .i64 0] 30)) := ((Below.refl _ _).alloc (Nat.le_refl _) _).alloc (by simp) _
  obtain ⟨t1, t2, t4⟩ := heap2 w (.cells #[.int .i64 r.1, .int .i64 r.2.1, .int .i64 r.2.2.1, .int .i64 r.2.2.2.1, .int .i64 r.2.2.2.2, .slice A n c] 47) (.cells #[.int .i64 0, .int .i64 0, .int .i64 0, .int .i64 0] 30)
  have x0 : ((w.alloc (.cells #[.int .i64 r.1, .int .i64 r.2.1, .int .i64 r.2.2.1, .int .i64 r.2.2.2.1, .int .i64 r.2.2.2.2, .slice A n c] 47)).alloc (.cells #[.int .i64 0, .int .i64 0, .int .i64 0, .int .i64 0] 30)).cell? ⟨w.heap.size, 0, none⟩ = some (.int .i64 r.1) := by simp only [World.cell?, t1]; rfl
  have x1 : ((w.alloc (.cells #[.int .i64 r.1, .int .i64 r.2.1, .int .i64 r.2.2.1, .int .i64 r.2.2.2.1, .int .i64 r.2.2.2.2, .slice A n c] 47)).alloc (.cells #[.int .i64 0, .int .i64 0, .int .i64 0, .int .i64 0] 30)).cell? ⟨w.heap.size, 1, none⟩ = some (.int .i64 r.2.1) := by simp only [World.cell?, t1]; rfl
  have x2 : ((w.alloc (.cells #[.int .i64 r.1, .int .i64 r.2.1, .int .i64 r.2.2.1, .int .i64 r.2.2.2.1, .int .i64 r.2.2.2.2, .slice A n c] 47)).alloc (.cells #[.int .i64 0, .int .i64 0, .int .i64 0, .int .i64 0] 30)).cell? ⟨w.heap.size, 2, none⟩ = some (.int .i64 r.2.2.1) := by simp only [World.cell?, t1]; rfl
  have x3 : ((w.alloc (.cells #[.int .i64 r.1, .int .i64 r.2.1, .int .i64 r.2.2.1, .int .i64 r.2.2.2.1, .int .i64 r.2.2.2.2, .slice A n c] 47)).alloc (.cells #[.int .i64 0, .int .i64 0, .int .i64 0, .int .i64 0] 30)).cell? ⟨w.heap.size, 3, none⟩ = some (.int .i64 r.2.2.2.1) := by simp only [World.cell?, t1]; rfl
  have x4 : ((w.alloc (.cells #[.int .i64 r.1, .int .i64 r.2.1, .int .i64 r.2.2.1, .int .i64 r.2.2.2.1, .int .i64 r.2.2.2.2, .slice A n c] 47)).alloc (.cells #[.int .i64 0, .int .i64 0, .int .i64 0, .int .i64 0] 30)).cell? ⟨w.heap.size, 4, none⟩ = some (.int .i64 r.2.2.2.2) := by simp only [World.cell?, t1]; rfl
  have x5 : ((w.alloc (.cells #[.int .i64 r.1, .int .i64 r.2.1, .int .i64 r.2.2.1, .int .i64 r.2.2.2.1, .int .i64 r.2.2.2.2, .slice A n c] 47)).alloc (.cells #[.int .i64 0, .int .i64 0, .int .i64 0, .int .i64 0] 30)).cell? ⟨w.heap.size, 5, none⟩ = some (.slice A n c) := by simp only [World.cell?, t1]; rfl
  have qz0 : ((w.alloc (.cells #[.int .i64 r.1, .int .i64 r.2.1, .int .i64 r.2.2.1, .int .i64 r.2.2.2.1, .int .i64 r.2.2.2.2, .slice A n c] 47)).alloc (.cells #[.int .i64 0, .int .i64 0, .int .i64 0, .int .i64 0] 30)).cell? ⟨w.heap.size + 1, 0, none⟩ = some (.int .i64 0) := by simp only [World.cell?, t2]; rfl
  have qz1 : ((w.alloc (.cells #[.int .i64 r.1, .int .i64 r.2.1, .int .i64 r.2.2.1, .int .i64 r.2.2.2.1, .int .i64 r.2.2.2.2, .slice A n c] 47)).alloc (.cells #[.int .i64 0, .int .i64 0, .int .i64 0, .int .i64 0] 30)).cell? ⟨w.heap.size + 1, 1, none⟩ = some (.int .i64 0) := by simp only [World.cell?, t2]; rfl
  have qz2 : ((w.alloc (.cells #[.int .i64 r.1, .int .i64 r.2.1, .int .i64 r.2.2.1, .int .i64 r.2.2.2.1, .int .i64 r.2.2.2.2, .slice A n c] 47)).alloc (.cells #[.int .i64 0, .int .i64 0, .int .i64 0, .int .i64 0] 30)).cell? ⟨w.heap.size + 1, 2, none⟩ = some (.int .i64 0) := by simp only [World.cell?, t2]; rfl
  have qz3 : ((w.alloc (.cells #[.int .i64 r.1, .int .i64 r.2.1, .int .i64 r.2.2.1, .int .i64 r.2.2.2.1, .int .i64 r.2.2.2.2, .slice A n c] 47)).alloc (.cells #[.int .i64 0, .int .i64 0, .int .i64 0, .int .i64 0] 30)).cell? ⟨w.heap.size + 1, 3, none⟩ = some (.int .i64 0) := by simp only [World.cell?, t2]; rfl
  have f0 : ((w.alloc (.cells #[.int .i64 r.1, .int .i64 r.2.1, .int .i64 r.2.2.1, .int .i64 r.2.2.2.1, .int .i64 r.2.2.2.2, .slice A n c] 47)).alloc (.cells #[.int .i64 0, .int .i64 0, .int .i64 0, .int .i64 0] 30)).frozen? ⟨w.heap.size + 1, 0, none⟩ = false := by simp only [World.frozen?, t2]; simp
  have f1 : ((w.alloc (.cells #[.int .i64 r.1, .int .i64 r.2.1, .int .i64 r.2.2.1, .int .i64 r.2.2.2.1, .int .i64 r.2.2.2.2, .slice A n c] 47)).alloc (.cells #[.int .i64 0, .int .i64 0, .int .i64 0, .int .i64 0] 30)).frozen? ⟨w.heap.size + 1, 1, none⟩ = false := by simp only [World.frozen?, t2]; simp
  have f2 : ((w.alloc (.cells #[.int .i64 r.1, .int .i64 r.2.1, .int .i64 r.2.2.1, .int .i64 r.2.2.2.1, .int .i64 r.2.2.2.2, .slice A n c] 47)).alloc (.cells #[.int .i64 0, .int .i64 0, .int .i64 0, .int .i64 0] 30)).frozen? ⟨w.heap.size + 1, 2, none⟩ = false := by simp only [World.frozen?, t2]; simp
  have f3 : ((w.alloc (.cells #[.int .i64 r.1, .int .i64 r.2.1, .int .i64 r.2.2.1, .int .i64 r.2.2.2.1, .int .i64 r.2.2.2.2, .slice A n c] 47)).alloc (.cells #[.int .i64 0, .int .i64 0, .int .i64 0, .int .i64 0] 30)).frozen? ⟨w.heap.size + 1, 3, none⟩ = false := by simp only [World.frozen?, t2]; simp
  have hl0 : w.heap.size + 1 < ((w.alloc (.cells #[.int .i64 r.1, .int .i64 r.2.1, .int .i64 r.2.2.1, .int .i64 r.2.2.2.1, .int .i64 r.2.2.2.2, .slice A n c] 47)).alloc (.cells #[.int .i64 0, .int .i64 0, .int .i64 0, .int .i64 0] 30)).heap.size := by rw [t4]; omega
  clear t1 t2 t4
  go_enter Tryd.func14, Tryd.ntmps14
  go_wp2_with fail
  generalize (w.alloc (.cells #[.int .i64 r.1, .int .i64 r.2.1, .int .i64 r.2.2.1, .int .i64 r.2.2.2.1, .int .i64 r.2.2.2.2, .slice A n c] 47)).alloc (.cells #[.int .i64 0, .int .i64 0, .int .i64 0, .int .i64 0] 30) = w0 at *
  refine (PlayerOk_c r A n c lo hi xs w0 hn'.out hb hc hc2 (hs.below hb0 hhi) (Nat.le_trans hhi hb0.size)).mono ?_
  rintro e w1 ⟨rfl, hb1⟩
  have hB1 := hb0.trans (hb1.mono hb0.size)
  have x0 := keepc hb1 x0
  have x1 := keepc hb1 x1
  have x2 := keepc hb1 x2
  have x3 := keepc hb1 x3
  have x4 := keepc hb1 x4
  have x5 := keepc hb1 x5
  have qz0 := keepc hb1 qz0
  have qz1 := keepc hb1 qz1
  have qz2 := keepc hb1 qz2
  have qz3 := keepc hb1 qz3
  have f0 := keepf hb1 (by omega) f0
  have f1 := keepf hb1 (by omega) f1
  have f2 := keepf hb1 (by omega) f2
  have f3 := keepf hb1 (by omega) f3
  have hl1 : w.heap.size + 1 < w1.heap.size := lt_of_cell qz0
  have fin : ∀ (wz : World) (t : ReplyT), Below w.heap.size w wz → Below w.heap.size w ((((wz.setCell ⟨w.heap.size + 1, 0, none⟩ (.int .i64 t.1)).setCell ⟨w.heap.size + 1, 1, none⟩ (.int .i64 t.2.1)).setCell ⟨w.heap.size + 1, 2, none⟩ (.int .i64 t.2.2.1)).setCell ⟨w.heap.size + 1, 3, none⟩ (.int .i64 t.2.2.2)) :=
    fun wz t h => h.trans (((((Below.refl w.heap.size wz).setCell (by simp) _).setCell (by simp) _).setCell (by simp) _).setCell (by simp) _)
  have fin' := hide fin
  clear fin
  cases e1 : decide (okPl r xs)
  · have hno := hide (sureL_not e1)
    go_wp2
    refine bodyPost_ret (v := .tuple #[.agg #[.int .i64 0, .int .i64 0, .int .i64 0, .int .i64 0], .bool false]) (by simp [results, Tryd.results14, go_sem, qz0, qz1, qz2, qz3]) rfl ⟨by rw [hno.out], fin'.out w1 (0, 0, 0, 0) hB1⟩
  · have hyes := hide (sureL_ok e1)
    go_wp2_with fail
    go_loopw [16, 5, 6, 8, 23] (fun iv _ _ _ _ wr => ∃ k : Nat, k ≤ n ∧ iv = .int .i64 k ∧ Hid (sureF xs (xs.drop 0) = sureF xs (xs.drop k)) ∧ Below w1.heap.size w1 wr) (fun iv _ _ _ _ _ => n - (intOf iv).toNat)
    case atStart => exact ⟨0, Nat.zero_le _, rfl, rfl, Below.refl _ _⟩
    case round =>
     obtain ⟨k, hk, rfl, hfd, hbr⟩ := hrel
     have hBr := hB1.trans (hbr.mono hB1.size)
     have x0 := keepc hbr x0
     have x1 := keepc hbr x1
     have x2 := keepc hbr x2
     have x3 := keepc hbr x3
     have x4 := keepc hbr x4
     have x5 := keepc hbr x5
     have qz0 := keepc hbr qz0
     have qz1 := keepc hbr qz1
     have qz2 := keepc hbr qz2
     have qz3 := keepc hbr qz3
     have f0 := keepf hbr (by omega) f0
     have f1 := keepf hbr (by omega) f1
     have f2 := keepf hbr (by omega) f2
     have f3 := keepf hbr (by omega) f3
     by_cases hlt : k < n
     · have hlx : k < xs.length := by have := hn'.out; omega
       have hsr := hs.below hBr hhi
       have hml := most_le xs xs[k]
       obtain ⟨b, off, rfl, hlo, hbh⟩ := hs.addr hlx
       obtain ⟨a1, a2, a3, a4⟩ := hsr.getReply hlx
       have hA2 := (Below.refl wr.heap.size wr).alloc (Nat.le_refl _) (.cells #[.int .i64 xs[k].1, .int .i64 xs[k].2.1, .int .i64 xs[k].2.2.1, .int .i64 xs[k].2.2.2] 30)
       have hB2 := hBr.trans (hA2.mono hBr.size)
       have hbr2 := hbr.trans (hA2.mono hbr.size)
       have hlr : w.heap.size + 1 < wr.heap.size := lt_of_cell qz0
       have y0 : (wr.alloc (.cells #[.int .i64 xs[k].1, .int .i64 xs[k].2.1, .int .i64 xs[k].2.2.1, .int .i64 xs[k].2.2.2] 30)).cell? ⟨wr.heap.size, 0, none⟩ = some (.int .i64 xs[k].1) := by simp
       have y1 : (wr.alloc (.cells #[.int .i64 xs[k].1, .int .i64 xs[k].2.1, .int .i64 xs[k].2.2.1, .int .i64 xs[k].2.2.2] 30)).cell? ⟨wr.heap.size, 1, none⟩ = some (.int .i64 xs[k].2.1) := by simp
       have y2 : (wr.alloc (.cells #[.int .i64 xs[k].1, .int .i64 xs[k].2.1, .int .i64 xs[k].2.2.1, .int .i64 xs[k].2.2.2] 30)).cell? ⟨wr.heap.size, 2, none⟩ = some (.int .i64 xs[k].2.2.1) := by simp
       have y3 : (wr.alloc (.cells #[.int .i64 xs[k].1, .int .i64 xs[k].2.1, .int .i64 xs[k].2.2.1, .int .i64 xs[k].2.2.2] 30)).cell? ⟨wr.heap.size, 3, none⟩ = some (.int .i64 xs[k].2.2.2) := by simp
       have x0 := keepc hA2 x0
       have x1 := keepc hA2 x1
       have x2 := keepc hA2 x2
       have x3 := keepc hA2 x3
       have x4 := keepc hA2 x4
       have x5 := keepc hA2 x5
       have qz0 := keepc hA2 qz0
       have qz1 := keepc hA2 qz1
       have qz2 := keepc hA2 qz2
       have qz3 := keepc hA2 qz3
       have f0 := keepf hA2 (by omega) f0
       have f1 := keepf hA2 (by omega) f1
       have f2 := keepf hA2 (by omega) f2
       have f3 := keepf hA2 (by omega) f3
       go_wp2_with fail
       clear a1 a2 a3 a4
       generalize hw2 : wr.alloc (.cells #[.int .i64 xs[k].1, .int .i64 xs[k].2.1, .int .i64 xs[k].2.2.1, .int .i64 xs[k].2.2.2] 30) = w2 at *
       clear hw2
       have hl2 : w.heap.size + 1 < w2.heap.size := lt_of_cell qz0
       go_loopw [23, 6, 8] (fun jv mv _ wj => ∃ j m : Nat, j ≤ n ∧ m ≤ j ∧ jv = .int .i64 j ∧ mv = .int .i64 m ∧ Hid (most xs xs[k] = m + most (xs.drop j) xs[k]) ∧ Below w2.heap.size w2 wj) (fun jv _ _ _ => n - (intOf jv).toNat)
       case atStart => exact ⟨0, 0, Nat.zero_le _, Nat.le_refl _, rfl, rfl, hide (by simp), Below.refl _ _⟩
       case round =>
         obtain ⟨j, m, hj, hmj, rfl, rfl, hms, hbj⟩ := hrel
         have hBj := hB2.trans (hbj.mono hB2.size)
         have hbrj := hbr2.trans (hbj.mono hbr2.size)
         have x0 := keepc hbj x0
         have x1 := keepc hbj x1
         have x2 := keepc hbj x2
         have x3 := keepc hbj x3
         have x4 := keepc hbj x4
         have x5 := keepc hbj x5
         have qz0 := keepc hbj qz0
         have qz1 := keepc hbj qz1
         have qz2 := keepc hbj qz2
         have qz3 := keepc hbj qz3
         have y0 := keepc hbj y0
         have y1 := keepc hbj y1
         have y2 := keepc hbj y2
         have y3 := keepc hbj y3
         have f0 := keepf hbj (by omega) f0
         have f1 := keepf hbj (by omega) f1
         have f2 := keepf hbj (by omega) f2
         have f3 := keepf hbj (by omega) f3
         by_cases hjn : j < n
         · have hjx : j < xs.length := by have := hn'.out; omega
           obtain ⟨a1, a2, a3, a4⟩ := (hs.below hBj hhi).getReply hjx
           have hst := hide (most_step hjx hms.out)
           have hly := lt_of_cell y0
           have hbje := hbj.alloc hbj.size (.cells #[.int .i64 xs[j].1, .int .i64 xs[j].2.1, .int .i64 xs[j].2.2.1, .int .i64 xs[j].2.2.2] 30)
           cases e1 : (xs[j].2.2.1 == xs[k].2.2.1)
           · have hno : Hid (alike xs[j] xs[k] = false) := hide (by simp [alike, e1])
             go_wp2
             go_roundw
             case rel => exact ⟨j + 1, m, by omega, by omega, by go_num, rfl, hide (by have := hst.out; rw [hno.out] at this; simpa using this), hbje⟩
             case measure => simp [intOf]; omega
           · cases e2 : (xs[j].2.2.2 == xs[k].2.2.2)
             · have hno : Hid (alike xs[j] xs[k] = false) := hide (by simp [alike, e2])
               go_wp2
               go_roundw
               case rel => exact ⟨j + 1, m, by omega, by omega, by go_num, rfl, hide (by have := hst.out; rw [hno.out] at this; simpa using this), hbje⟩
               case measure => simp [intOf]; omega
             · have hno : Hid (alike xs[j] xs[k] = true) := hide (by simp only [alike, e1, e2]; rfl)
               go_wp2
               go_roundw
               case rel => exact ⟨j + 1, m + 1, by omega, by omega, by go_num, by go_num, hide (by have := hst.out; rw [hno.out] at this; simpa using this), hbje⟩
               case measure => simp [intOf]; omega
         · obtain rfl : j = n := by omega
           have hf : most xs xs[k] = m := by rw [hms.out, List.drop_of_length_le (by have := hn'.out; omega)]; rfl
           by_cases h2 : 2 ≤ m
           · have d2 : decide (2 ≤ (m : Int)) = true := by simp; omega
             have hfo : Hid (sureL r xs = (xs[k], true)) := hide (by rw [hyes.out, hfd.out, sureF_yes hlx (by omega)])
             clear hf
             go_wp2
             refine bodyPost_ret (v := .tuple #[.agg #[.int .i64 xs[k].1, .int .i64 xs[k].2.1, .int .i64 xs[k].2.2.1, .int .i64 xs[k].2.2.2], .bool true]) (by simp [results, Tryd.results14, go_sem, qz0, qz1, qz2, qz3]) rfl ⟨by rw [hfo.out], fin'.out _ xs[k] hBj⟩
           · have d2 : decide (2 ≤ (m : Int)) = false := by simp; omega
             have hno := hide (sureF_no hlx (by omega))
             clear hf
             go_wp2
             go_roundw
             case rel => exact ⟨k + 1, by omega, by go_num, hide (hfd.out.trans hno.out), hbrj⟩
             case measure => simp [intOf]; omega
     · obtain rfl : k = n := by omega
       have hno : Hid (sureL r xs = ((0, 0, 0, 0), false)) := hide (by rw [hyes.out, hfd.out, sureF_end (by have := hn'.out; omega)])
       go_wp2
       refine bodyPost_ret (v := .tuple #[.agg #[.int .i64 0, .int .i64 0, .int .i64 0, .int .i64 0], .bool false]) (by simp [results, Tryd.results14, go_sem, qz0, qz1, qz2, qz3]) rfl ⟨by rw [hno.out], fin'.out wr (0, 0, 0, 0) hBr⟩
end Go.Proofs.YtajmfonepnkofaaDoor
namespace Go.Proofs.YtajmfonepnkofaaDoor
open Go.RowKit Rg
set_option linter.unusedVariables false
set_option linter.unusedSimpArgs false

theorem other_code (g : GameT) (k n : Nat) (r : AskT) : 0 ≤ (other g k n r).2 ∧ (other g k n r).2 ≤ 8 := by
  unfold other
  dsimp only
  split
  · simp
  · split
    · split <;> simp
    · split <;> simp
theorem actG_code (g : GameT) (k : Nat) (r : AskT) : 0 ≤ (actG g k r).2 ∧ (actG g k r).2 ≤ 8 := by
  unfold actG
  dsimp only
  split
  · split <;> simp
  · split
    · split <;> simp
    · split
      · simp
      · exact other_code _ _ _ _
theorem doG_code (g : GameT) (r : AskT) : 0 ≤ (doG g r).2 ∧ (doG g r).2 ≤ 8 := by
  unfold doG
  split
  · simp
  · split
    · simp
    · unfold behG
      split
      · split <;> simp
      · split
        · simp
        · exact actG_code _ _ _
section
variable {r : ReqV} {frm oth code sum : Int}
theorem okRp_of (h0 : 0 ≤ frm ∧ frm ≤ 3) (hr : okR r = true) (h1 : 0 ≤ code ∧ code ≤ 8) (h2 : 0 ≤ sum ∧ sum ≤ 4294967295) : okRp (frm, r.2.1, code, sum) = true := by
  have hn := (okR_iff r).1 hr
  have hn2 := hn.2.1
  unfold rng at hn2
  unfold okRp inB
  simp only [Bool.and_eq_true, decide_eq_true_eq]
  exact ⟨h0, hn2, h1, h2⟩
theorem hear_one (h0 : 0 ≤ frm ∧ frm ≤ 3) (hr : okR r = true) (h1 : 0 ≤ code ∧ code ≤ 8) (h2 : 0 ≤ sum ∧ sum ≤ 4294967295) : hearL r [] (frm, r.2.1, code, sum) = ((r, [(frm, r.2.1, code, sum)]), true) := by
  have h : okPl r [] := ⟨fun i hi => by simp at hi, hr⟩
  unfold hearL
  rw [if_pos h]
  have hf : fitsL r [] (frm, r.2.1, code, sum) = true := by
    unfold fitsL hasFrom
    rw [okRp_of h0 hr h1 h2]
    simp
  rw [hf]
  rfl
theorem okPl_one (h0 : 0 ≤ frm ∧ frm ≤ 3) (hr : okR r = true) (h1 : 0 ≤ code ∧ code ≤ 8) (h2 : 0 ≤ sum ∧ sum ≤ 4294967295) : okPl r [(frm, r.2.1, code, sum)] := by
  refine ⟨fun i hi => ⟨hi, ?_⟩, hr⟩
  have hi0 : i = 0 := by simp at hi; omega
  subst hi0
  unfold fitsL hasFrom
  simp only [List.getElem_cons_zero, List.take_zero, List.any_nil, okRp_of h0 hr h1 h2]
  simp
theorem fits_two (h0 : 0 ≤ frm ∧ frm ≤ 3) (h3 : 0 ≤ oth ∧ oth ≤ 3) (hne : frm ≠ oth) (hr : okR r = true) (h1 : 0 ≤ code ∧ code ≤ 8) (h2 : 0 ≤ sum ∧ sum ≤ 4294967295) : fitsL r [(frm, r.2.1, code, sum)] (oth, r.2.1, code, sum) = true := by
  unfold fitsL hasFrom
  rw [okRp_of h3 hr h1 h2]
  simp [hne]
theorem hear_two (h0 : 0 ≤ frm ∧ frm ≤ 3) (h3 : 0 ≤ oth ∧ oth ≤ 3) (hne : frm ≠ oth) (hr : okR r = true) (h1 : 0 ≤ code ∧ code ≤ 8) (h2 : 0 ≤ sum ∧ sum ≤ 4294967295) : hearL r [(frm, r.2.1, code, sum)] (oth, r.2.1, code, sum) = ((r, [(frm, r.2.1, code, sum), (oth, r.2.1, code, sum)]), true) := by
  unfold hearL
  rw [if_pos (okPl_one h0 hr h1 h2), fits_two h0 h3 hne hr h1 h2]
  rfl
theorem okPl_two (h0 : 0 ≤ frm ∧ frm ≤ 3) (h3 : 0 ≤ oth ∧ oth ≤ 3) (hne : frm ≠ oth) (hr : okR r = true) (h1 : 0 ≤ code ∧ code ≤ 8) (h2 : 0 ≤ sum ∧ sum ≤ 4294967295) : okPl r [(frm, r.2.1, code, sum), (oth, r.2.1, code, sum)] := by
  refine ⟨fun i hi => ⟨hi, ?_⟩, hr⟩
  have hi0 : i = 0 ∨ i = 1 := by simp at hi; omega
  rcases hi0 with rfl | rfl
  · obtain ⟨_, h⟩ := (okPl_one h0 hr h1 h2).1 0 (by simp)
    exact h
  · exact fits_two h0 h3 hne hr h1 h2
theorem sure_two (h0 : 0 ≤ frm ∧ frm ≤ 3) (h3 : 0 ≤ oth ∧ oth ≤ 3) (hne : frm ≠ oth) (hr : okR r = true) (h1 : 0 ≤ code ∧ code ≤ 8) (h2 : 0 ≤ sum ∧ sum ≤ 4294967295) : sureL r [(frm, r.2.1, code, sum), (oth, r.2.1, code, sum)] = ((frm, r.2.1, code, sum), true) := by
  unfold sureL
  rw [if_pos (okPl_two h0 h3 hne hr h1 h2)]
  have hm : most [(frm, r.2.1, code, sum), (oth, r.2.1, code, sum)] (frm, r.2.1, code, sum) = 2 := by
    unfold most alike
    simp
  unfold sureF
  simp only [List.find?_cons, hm]
  simp
end
theorem ansR_ok {frm : Int} {g : GameT} {r : ReqV} (h : (ansR frm g r).2 = true) : (0 ≤ frm ∧ frm ≤ 3) ∧ okG g ∧ okR r = true ∧ (ansR frm g r).1 = (frm, r.2.1, (doG g r).2, (crcN (putG (doG g r).1) : Int)) := by
  unfold ansR at h ⊢
  split at h
  · rename_i hc
    rw [if_pos hc]
    exact ⟨inB_yes hc.1, (okB_iff g).1 hc.2.1, hc.2.2, rfl⟩
  · cases h
theorem ansR_yes {frm : Int} {g : GameT} {r : ReqV} (h0 : 0 ≤ frm ∧ frm ≤ 3) (hg : okG g) (hr : okR r = true) : ansR frm g r = ((frm, r.2.1, (doG g r).2, (crcN (putG (doG g r).1) : Int)), true) := by
  unfold ansR
  rw [if_pos ⟨by unfold inB; exact decide_eq_true h0, okB_true hg, hr⟩]
theorem crc_rng (bs : List UInt8) : 0 ≤ (crcN bs : Int) ∧ (crcN bs : Int) ≤ 4294967295 := by have := crcN_lt bs; omega
end Go.Proofs.YtajmfonepnkofaaDoor
namespace Go.Proofs.YtajmfonepnkofaaDoor
open Go.RowKit Rg
set_option linter.unusedVariables false
set_option linter.unusedSimpArgs false

/-- A box of six cells. -/
def Bx6 (w : World) (b : Nat) (v0 v1 v2 v3 v4 v5 : Value) (t : TypeId) : Prop := w.heap[b]? = some (.cells #[v0, v1, v2, v3, v4, v5] t (0, 0))
section
variable {w w' : World} {b : Nat} {v0 v1 v2 v3 v4 v5 : Value} {t : TypeId}
theorem Bx6.made (w : World) (v0 v1 v2 v3 v4 v5 : Value) (t : TypeId) : Bx6 (w.alloc (.cells #[v0, v1, v2, v3, v4, v5] t)) w.heap.size v0 v1 v2 v3 v4 v5 t := heap_alloc_new w _
theorem Bx6.lt (h : Bx6 w b v0 v1 v2 v3 v4 v5 t) : b < w.heap.size := lt_of_heap h
theorem Bx6.below {K : Nat} (h : Bx6 w b v0 v1 v2 v3 v4 v5 t) (hb : Below K w w') (hK : b < K) : Bx6 w' b v0 v1 v2 v3 v4 v5 t := (hb.block b hK).trans h
theorem Bx6.cells (h : Bx6 w b v0 v1 v2 v3 v4 v5 t) : w.cell? ⟨b, 0, none⟩ = some v0 ∧ w.cell? ⟨b, 1, none⟩ = some v1 ∧ w.cell? ⟨b, 2, none⟩ = some v2 ∧ w.cell? ⟨b, 3, none⟩ = some v3 ∧ w.cell? ⟨b, 4, none⟩ = some v4 ∧ w.cell? ⟨b, 5, none⟩ = some v5 := by
  unfold Bx6 at h
  refine ⟨?_, ?_, ?_, ?_, ?_, ?_⟩ <;> (simp only [World.cell?, h]; rfl)
end
theorem ans_facts {k : Nat} {gm : GameT} {r : ReqV} {a0 a1 a2 a3 : Int} (h : ansR (k : Int) gm r = ((a0, a1, a2, a3), true)) :
    okG gm ∧ okR r = true ∧ a1 = r.2.1 ∧ a2 = (doG gm r).2 ∧ a3 = (crcN (putG (doG gm r).1) : Int) ∧ ansR (((k : Int) + 1) % 4) gm r = ((((k : Int) + 1) % 4, a1, a2, a3), true) ∧ hearL r [] (a0, a1, a2, a3) = ((r, [(a0, a1, a2, a3)]), true) ∧ hearL r [(a0, a1, a2, a3)] (((k : Int) + 1) % 4, a1, a2, a3) = ((r, [(a0, a1, a2, a3), (((k : Int) + 1) % 4, a1, a2, a3)]), true) ∧ sureL r [(a0, a1, a2, a3), (((k : Int) + 1) % 4, a1, a2, a3)] = ((a0, a1, a2, a3), true) := by
  obtain ⟨hk, hg, hr, hv⟩ := ansR_ok (frm := (k : Int)) (g := gm) (r := r) (by rw [h])
  rw [h] at hv
  have hy := ansR_yes (frm := ((k : Int) + 1) % 4) (by omega) hg hr
  have hc := doG_code gm r
  have hs := crc_rng (putG (doG gm r).1)
  simp only [Prod.mk.injEq] at hv
  obtain ⟨rfl, rfl, rfl, rfl⟩ := hv
  exact ⟨hg, hr, rfl, rfl, rfl, hy, hear_one hk hr hc hs, hear_two hk (by omega) (by omega) hr hc hs, sure_two hk (by omega) (by omega) hr hc hs⟩
theorem run_neq_reply (r s : ReplyT) (w : World) : (binOp .neq 30 (.agg #[.int .i64 r.1, .int .i64 r.2.1, .int .i64 r.2.2.1, .int .i64 r.2.2.2]) (.agg #[.int .i64 s.1, .int .i64 s.2.1, .int .i64 s.2.2.1, .int .i64 s.2.2.2])).run Tryd.prog w = .ok (.bool (!decide (r = s))) w := by
  obtain ⟨a, b, c, x⟩ := r
  obtain ⟨a', b', c', x'⟩ := s
  go_simp
  by_cases h1 : a = a' <;> by_cases h2 : b = b' <;> by_cases h3 : c = c' <;> by_cases h4 : x = x' <;> simp [*]
theorem run_eq_reply (r s : ReplyT) (w : World) : (binOp .eql 30 (.agg #[.int .i64 r.1, .int .i64 r.2.1, .int .i64 r.2.2.1, .int .i64 r.2.2.2]) (.agg #[.int .i64 s.1, .int .i64 s.2.1, .int .i64 s.2.2.1, .int .i64 s.2.2.2])).run Tryd.prog w = .ok (.bool (decide (r = s))) w := by
  obtain ⟨a, b, c, x⟩ := r
  obtain ⟨a', b', c', x'⟩ := s
  go_simp
  by_cases h1 : a = a' <;> by_cases h2 : b = b' <;> by_cases h3 : c = c' <;> by_cases h4 : x = x' <;> simp [*]
set_option maxRecDepth 100000 in
set_option maxHeartbeats 4000000 in
theorem lawReplyOf (A : Option Addr) (n c : Nat) (bs : List Int) (w : World) (hn : n = bs.length) (hc : n ≤ c) (hcm : c ≤ maxLen) (hs : Sl encU 1 w 0 w.heap.size A bs) (hb : ∀ b ∈ bs, 0 ≤ b ∧ b < 256) :
    Calls Tryd.prog 4 #[.slice A n c] w fun e w' => e = .returned (.bool true) ∧ Below w.heap.size w w' := by
  have hn' := hide hn
  have hb' := hide hb
  have hs' := hide hs
  clear hn hb hs
  by_cases hbig : 1048576 < n
  · have e1 : decide (1048576 < (n : Int)) = true := decide_eq_true (by omega)
    have e2 : decide (1048576 < n) = true := decide_eq_true hbig
    go_enter Tryd.func4, Tryd.ntmps4
    go_wp2
    go_ret
    exact ⟨rfl, Below.refl _ _⟩
  have e1 : decide (1048576 < (n : Int)) = false := decide_eq_false (by omega)
  have e2 : decide (1048576 < n) = false := decide_eq_false hbig
  go_enter Tryd.func4, Tryd.ntmps4
  go_wp2_with fail
  refine (DrawReplyOf_c A n c bs w hn'.out hc hcm hs'.out hb'.out).mono ?_
  rintro e w1 ⟨k, A2, n2, c2, B2, p2, d2, E2, q2, f2, gm, r, rfl, hk4, hgm, hl, hB1⟩
  have hbn : n2 ≤ 1048576 ∧ p2 ≤ 1048576 ∧ q2 ≤ 1048576 := by have h1 := hgm.en.len; have h2 := hgm.fl.len; have h3 := hgm.la.len; omega
  have kI := hide (fun (frm : Int) (a0 a1 a2 a3 : Int) (ab : Bool) (han : ansR frm gm r = ((a0, a1, a2, a3), ab)) (W : World) (hg : GmD W (fun b => w.heap.size ≤ b ∧ b < w1.heap.size) A2 n2 c2 B2 p2 d2 E2 q2 f2 gm) (hz : w1.heap.size ≤ W.heap.size) => show Calls Tryd.prog 9 #[.int .i64 frm, .agg #[.slice A2 n2 c2, .slice B2 p2 d2, .slice E2 q2 f2], .agg #[.int .i64 r.1, .int .i64 r.2.1, .int .i64 r.2.2.1, .int .i64 r.2.2.2.1, .int .i64 r.2.2.2.2]] W (fun e w' => e = .returned (.tuple #[.agg #[.int .i64 a0, .int .i64 a1, .int .i64 a2, .int .i64 a3], .bool ab]) ∧ Below W.heap.size W w') from by
    have := ReplyOf_c frm A2 n2 c2 B2 p2 d2 E2 q2 f2 _ gm r W hg (fun b hb => by have := hb.2; omega) hbn.1 hbn.2.1 hbn.2.2
    rw [han] at this
    exact this)
  have kS := hide (fun (frm : Int) (a0 a1 a2 a3 : Int) (ab : Bool) (han : ansR frm gm r = ((a0, a1, a2, a3), ab)) (W : World) (hg : GmD W (fun b => w.heap.size ≤ b ∧ b < w1.heap.size) A2 n2 c2 B2 p2 d2 E2 q2 f2 gm) (hz : w1.heap.size ≤ W.heap.size) => show Calls Tryd.prog 6 #[.int .i64 frm, .agg #[.slice A2 n2 c2, .slice B2 p2 d2, .slice E2 q2 f2], .agg #[.int .i64 r.1, .int .i64 r.2.1, .int .i64 r.2.2.1, .int .i64 r.2.2.2.1, .int .i64 r.2.2.2.2]] W (fun e w' => e = .returned (.tuple #[.agg #[.int .i64 a0, .int .i64 a1, .int .i64 a2, .int .i64 a3], .bool ab]) ∧ Below W.heap.size W w') from by
    have := ReplyOfS_c frm A2 n2 c2 B2 p2 d2 E2 q2 f2 _ gm r W hg (fun b hb => by have := hb.2; omega) hbn.1 hbn.2.1 hbn.2.2
    rw [han] at this
    exact this)
  obtain ⟨a0, a1, a2, a3, ab, han⟩ : ∃ a0 a1 a2 a3 ab, ansR (k : Int) gm r = ((a0, a1, a2, a3), ab) := ⟨_, _, _, _, _, rfl⟩
  have hanh := hide han
  clear han
  have hA2 := ((Below.refl w1.heap.size w1).alloc (Nat.le_refl _) (.cells #[.slice A2 n2 c2, .slice B2 p2 d2, .slice E2 q2 f2] 35)).alloc (by simp) (.cells #[.int .i64 r.1, .int .i64 r.2.1, .int .i64 r.2.2.1, .int .i64 r.2.2.2.1, .int .i64 r.2.2.2.2] 37)
  have hgx : Bx3 ((w1.alloc (.cells #[.slice A2 n2 c2, .slice B2 p2 d2, .slice E2 q2 f2] 35)).alloc (.cells #[.int .i64 r.1, .int .i64 r.2.1, .int .i64 r.2.2.1, .int .i64 r.2.2.2.1, .int .i64 r.2.2.2.2] 37)) w1.heap.size (.slice A2 n2 c2) (.slice B2 p2 d2) (.slice E2 q2 f2) 35 := (Bx3.made w1 (.slice A2 n2 c2) (.slice B2 p2 d2) (.slice E2 q2 f2) 35).alloc _
  have hrx : Bx5 ((w1.alloc (.cells #[.slice A2 n2 c2, .slice B2 p2 d2, .slice E2 q2 f2] 35)).alloc (.cells #[.int .i64 r.1, .int .i64 r.2.1, .int .i64 r.2.2.1, .int .i64 r.2.2.2.1, .int .i64 r.2.2.2.2] 37)) (w1.heap.size + 1) r 37 := by
    have h2 := Bx5.made (w1.alloc (.cells #[.slice A2 n2 c2, .slice B2 p2 d2, .slice E2 q2 f2] 35)) r 37
    simp only [World.size_alloc] at h2
    exact h2
  have hz2 : w1.heap.size + 2 ≤ ((w1.alloc (.cells #[.slice A2 n2 c2, .slice B2 p2 d2, .slice E2 q2 f2] 35)).alloc (.cells #[.int .i64 r.1, .int .i64 r.2.1, .int .i64 r.2.2.1, .int .i64 r.2.2.2.1, .int .i64 r.2.2.2.2] 37)).heap.size := by simp only [World.size_alloc]; omega
  have hgm2 := hide (hgm.below hA2 (fun b hb => hb.2))
  have hB2 := hB1.trans (hA2.mono hB1.size)
  clear hgm hA2
  obtain ⟨gx0, gx1, gx2, -, -, -⟩ := hgx.cells
  obtain ⟨rx0, rx1, rx2, rx3, rx4, -⟩ := hrx.cells
  go_wp2_with fail
  generalize (w1.alloc (.cells #[.slice A2 n2 c2, .slice B2 p2 d2, .slice E2 q2 f2] 35)).alloc (.cells #[.int .i64 r.1, .int .i64 r.2.1, .int .i64 r.2.2.1, .int .i64 r.2.2.2.1, .int .i64 r.2.2.2.2] 37) = w2 at *
  refine (kI.out (k : Int) a0 a1 a2 a3 ab hanh.out w2 hgm2.out (by omega)).mono ?_
  rintro e w3 ⟨rfl, hb3⟩
  have hs3 := hb3.size
  have hbx4 := hb3.alloc hb3.size (.cells #[.int .i64 a0, .int .i64 a1, .int .i64 a2, .int .i64 a3] 30)
  have hry : Bx4 (w3.alloc (.cells #[.int .i64 a0, .int .i64 a1, .int .i64 a2, .int .i64 a3] 30)) w3.heap.size (.int .i64 (a0)) (.int .i64 a1) (.int .i64 a2) (.int .i64 a3) 30 := Bx4.made w3 _ _ _ _ _
  have hz4 : w3.heap.size < (w3.alloc (.cells #[.int .i64 a0, .int .i64 a1, .int .i64 a2, .int .i64 a3] 30)).heap.size := by simp
  have hgm4 := hide (hgm2.out.below hbx4 (fun b hb => by have := hb.2; omega))
  replace hgx := hgx.below hbx4 hgx.lt
  replace hrx := hrx.below hbx4 hrx.lt
  have hB4 := hB2.trans (hbx4.mono hB2.size)
  clear gx0 gx1 gx2 rx0 rx1 rx2 rx3 rx4
  obtain ⟨gx0, gx1, gx2, -, -, -⟩ := hgx.cells
  obtain ⟨rx0, rx1, rx2, rx3, rx4, -⟩ := hrx.cells
  obtain ⟨ry0, ry1, ry2, ry3, -, -⟩ := hry.cells
  go_wp2_with fail
  generalize w3.alloc (.cells #[.int .i64 a0, .int .i64 a1, .int .i64 a2, .int .i64 a3] 30) = w4 at *
  refine (kS.out (k : Int) a0 a1 a2 a3 ab hanh.out w4 hgm4.out (by omega)).mono ?_
  rintro e w5 ⟨rfl, hb5⟩
  have hs5 := hb5.size
  have hbx6 := hb5.alloc hb5.size (.cells #[.int .i64 a0, .int .i64 a1, .int .i64 a2, .int .i64 a3] 30)
  have hrz : Bx4 (w5.alloc (.cells #[.int .i64 a0, .int .i64 a1, .int .i64 a2, .int .i64 a3] 30)) w5.heap.size (.int .i64 (a0)) (.int .i64 a1) (.int .i64 a2) (.int .i64 a3) 30 := Bx4.made w5 _ _ _ _ _
  have hz6 : w5.heap.size < (w5.alloc (.cells #[.int .i64 a0, .int .i64 a1, .int .i64 a2, .int .i64 a3] 30)).heap.size := by simp
  have hgm6 := hide (hgm4.out.below hbx6 (fun b hb => by have := hb.2; omega))
  replace hgx := hgx.below hbx6 hgx.lt
  replace hrx := hrx.below hbx6 hrx.lt
  replace hry := hry.below hbx6 hry.lt
  have hB6 := hB4.trans (hbx6.mono hB4.size)
  clear gx0 gx1 gx2 rx0 rx1 rx2 rx3 rx4 ry0 ry1 ry2 ry3
  obtain ⟨gx0, gx1, gx2, -, -, -⟩ := hgx.cells
  obtain ⟨rx0, rx1, rx2, rx3, rx4, -⟩ := hrx.cells
  obtain ⟨ry0, ry1, ry2, ry3, -, -⟩ := hry.cells
  obtain ⟨rz0, rz1, rz2, rz3, -, -⟩ := hrz.cells
  have hrun := run_neq_reply (a0, a1, a2, a3) (a0, a1, a2, a3) (w5.alloc (.cells #[.int .i64 a0, .int .i64 a1, .int .i64 a2, .int .i64 a3] 30))
  have hrun2 := run_eq_reply (a0, a1, a2, a3) (a0, a1, a2, a3) (w5.alloc (.cells #[.int .i64 a0, .int .i64 a1, .int .i64 a2, .int .i64 a3] 30))
  have dec1 : decide ((a0, a1, a2, a3) = (a0, a1, a2, a3)) = true := decide_eq_true rfl
  rw [dec1] at hrun hrun2
  dsimp only at hrun hrun2
  cases hab : ab
  · rw [hab] at hanh
    clear kI kS
    subst hab
    go_wp2_with fail
    generalize w5.alloc (.cells #[.int .i64 a0, .int .i64 a1, .int .i64 a2, .int .i64 a3] 30) = w6 at *
    go_ret
    exact ⟨rfl, hB6⟩
  · subst hab
    obtain ⟨hog, hor, qa1, qa2, qa3, hy, hh1, hh2, hsu⟩ := ans_facts hanh.out
    replace hog := hide hog
    replace qa1 := hide qa1
    replace qa2 := hide qa2
    replace qa3 := hide qa3
    replace hy := hide hy
    replace hh1 := hide hh1
    replace hh2 := hide hh2
    replace hsu := hide hsu
    go_wp2_with fail
    generalize w5.alloc (.cells #[.int .i64 a0, .int .i64 a1, .int .i64 a2, .int .i64 a3] 30) = w6 at *
    refine (kI.out (((k : Int) + 1) % 4) (((k : Int) + 1) % 4) a1 a2 a3 true hy.out w6 hgm6.out (by omega)).mono ?_
    rintro e w7 ⟨rfl, hb7⟩
    have hs7 := hb7.size
    have hbx8 := hb7.alloc hb7.size (.cells #[.int .i64 (((k : Int) + 1) % 4), .int .i64 a1, .int .i64 a2, .int .i64 a3] 30)
    have hrs : Bx4 (w7.alloc (.cells #[.int .i64 (((k : Int) + 1) % 4), .int .i64 a1, .int .i64 a2, .int .i64 a3] 30)) w7.heap.size (.int .i64 (((k : Int) + 1) % 4)) (.int .i64 a1) (.int .i64 a2) (.int .i64 a3) 30 := Bx4.made w7 _ _ _ _ _
    have hz8 : w7.heap.size < (w7.alloc (.cells #[.int .i64 (((k : Int) + 1) % 4), .int .i64 a1, .int .i64 a2, .int .i64 a3] 30)).heap.size := by simp
    have hgm8 := hide (hgm6.out.below hbx8 (fun b hb => by have := hb.2; omega))
    replace hgx := hgx.below hbx8 hgx.lt
    replace hrx := hrx.below hbx8 hrx.lt
    replace hry := hry.below hbx8 hry.lt
    replace hrz := hrz.below hbx8 hrz.lt
    have hB8 := hB6.trans (hbx8.mono hB6.size)
    clear gx0 gx1 gx2 rx0 rx1 rx2 rx3 rx4 ry0 ry1 ry2 ry3 rz0 rz1 rz2 rz3
    obtain ⟨gx0, gx1, gx2, -, -, -⟩ := hgx.cells
    obtain ⟨rx0, rx1, rx2, rx3, rx4, -⟩ := hrx.cells
    obtain ⟨ry0, ry1, ry2, ry3, -, -⟩ := hry.cells
    obtain ⟨rz0, rz1, rz2, rz3, -, -⟩ := hrz.cells
    obtain ⟨rs0, rs1, rs2, rs3, -, -⟩ := hrs.cells
    go_wp2_with fail
    generalize w7.alloc (.cells #[.int .i64 (((k : Int) + 1) % 4), .int .i64 a1, .int .i64 a2, .int .i64 a3] 30) = w8 at *
    refine (PlayerHear_c r none 0 0 0 0 [] (a0, a1, a2, a3) w8 rfl (by omega) (by omega) (by simp [maxLen]) Sl.nil_ (by omega)).mono ?_
    rintro e w9 ⟨r9, A9, n9, c9, b9, rfl, ho9, hn9, hr9, hb9, hw9⟩
    rw [hh1.out] at ho9 hn9 hr9 hb9
    dsimp only at ho9 hn9 hr9 hb9
    replace hr9 := hr9.symm
    subst hr9
    subst hb9
    obtain ⟨hn9', hc9, hs9'⟩ := ho9.slAt encReply_len
    have hc9' := ho9.cap.2
    replace hn9' := hide hn9'
    clear hn9
    have hs9 := hw9.size
    have hbx10 := hw9.alloc hw9.size (.cells #[.int .i64 r.1, .int .i64 r.2.1, .int .i64 r.2.2.1, .int .i64 r.2.2.2.1, .int .i64 r.2.2.2.2, .slice A9 n9 c9] 47)
    have hpa : Bx6 (w9.alloc (.cells #[.int .i64 r.1, .int .i64 r.2.1, .int .i64 r.2.2.1, .int .i64 r.2.2.2.1, .int .i64 r.2.2.2.2, .slice A9 n9 c9] 47)) w9.heap.size (.int .i64 r.1) (.int .i64 r.2.1) (.int .i64 r.2.2.1) (.int .i64 r.2.2.2.1) (.int .i64 r.2.2.2.2) (.slice A9 n9 c9) 47 := Bx6.made w9 _ _ _ _ _ _ _
    have hz10 : w9.heap.size < (w9.alloc (.cells #[.int .i64 r.1, .int .i64 r.2.1, .int .i64 r.2.2.1, .int .i64 r.2.2.2.1, .int .i64 r.2.2.2.2, .slice A9 n9 c9] 47)).heap.size := by simp
    have hgm10 := hide (hgm8.out.below hbx10 (fun b hb => by have := hb.2; omega))
    have hsl10 := hide (hs9'.below ((Below.refl w9.heap.size w9).alloc (Nat.le_refl _) (.cells #[.int .i64 r.1, .int .i64 r.2.1, .int .i64 r.2.2.1, .int .i64 r.2.2.2.1, .int .i64 r.2.2.2.2, .slice A9 n9 c9] 47)) (Nat.le_refl _))
    replace hgx := hgx.below hbx10 hgx.lt
    replace hrx := hrx.below hbx10 hrx.lt
    replace hry := hry.below hbx10 hry.lt
    replace hrz := hrz.below hbx10 hrz.lt
    replace hrs := hrs.below hbx10 hrs.lt
    have hB10 := hB8.trans (hbx10.mono hB8.size)
    clear gx0 gx1 gx2 rx0 rx1 rx2 rx3 rx4 ry0 ry1 ry2 ry3 rz0 rz1 rz2 rz3 rs0 rs1 rs2 rs3
    obtain ⟨gx0, gx1, gx2, -, -, -⟩ := hgx.cells
    obtain ⟨rx0, rx1, rx2, rx3, rx4, -⟩ := hrx.cells
    obtain ⟨ry0, ry1, ry2, ry3, -, -⟩ := hry.cells
    obtain ⟨rz0, rz1, rz2, rz3, -, -⟩ := hrz.cells
    obtain ⟨rs0, rs1, rs2, rs3, -, -⟩ := hrs.cells
    obtain ⟨pa0, pa1, pa2, pa3, pa4, pa5⟩ := hpa.cells
    go_wp2_with fail
    generalize w9.alloc (.cells #[.int .i64 r.1, .int .i64 r.2.1, .int .i64 r.2.2.1, .int .i64 r.2.2.2.1, .int .i64 r.2.2.2.2, .slice A9 n9 c9] 47) = w10 at *
    refine (PlayerHear_c r A9 n9 c9 _ _ [(a0, a1, a2, a3)] (((k : Int) + 1) % 4, a1, a2, a3) w10 (by rw [hn9'.out]) (by rw [hn9'.out]; simp) hc9 hc9' hsl10.out (by omega)).mono ?_
    rintro e w11 ⟨r11, A11, n11, c11, b11, rfl, ho11, hn11, hr11, hb11, hw11⟩
    rw [hh2.out] at ho11 hn11 hr11 hb11
    dsimp only at ho11 hn11 hr11 hb11
    replace hr11 := hr11.symm
    subst hr11
    subst hb11
    obtain ⟨hn11', hc11, hs11'⟩ := ho11.slAt encReply_len
    have hc11' := ho11.cap.2
    replace hn11' := hide hn11'
    clear hn11
    have hs11 := hw11.size
    have hbx12 := hw11.alloc hw11.size (.cells #[.int .i64 r.1, .int .i64 r.2.1, .int .i64 r.2.2.1, .int .i64 r.2.2.2.1, .int .i64 r.2.2.2.2, .slice A11 n11 c11] 47)
    have hpb : Bx6 (w11.alloc (.cells #[.int .i64 r.1, .int .i64 r.2.1, .int .i64 r.2.2.1, .int .i64 r.2.2.2.1, .int .i64 r.2.2.2.2, .slice A11 n11 c11] 47)) w11.heap.size (.int .i64 r.1) (.int .i64 r.2.1) (.int .i64 r.2.2.1) (.int .i64 r.2.2.2.1) (.int .i64 r.2.2.2.2) (.slice A11 n11 c11) 47 := Bx6.made w11 _ _ _ _ _ _ _
    have hz12 : w11.heap.size < (w11.alloc (.cells #[.int .i64 r.1, .int .i64 r.2.1, .int .i64 r.2.2.1, .int .i64 r.2.2.2.1, .int .i64 r.2.2.2.2, .slice A11 n11 c11] 47)).heap.size := by simp
    have hgm12 := hide (hgm10.out.below hbx12 (fun b hb => by have := hb.2; omega))
    have hsl12 := hide (hs11'.below ((Below.refl w11.heap.size w11).alloc (Nat.le_refl _) (.cells #[.int .i64 r.1, .int .i64 r.2.1, .int .i64 r.2.2.1, .int .i64 r.2.2.2.1, .int .i64 r.2.2.2.2, .slice A11 n11 c11] 47)) (Nat.le_refl _))
    replace hgx := hgx.below hbx12 hgx.lt
    replace hrx := hrx.below hbx12 hrx.lt
    replace hry := hry.below hbx12 hry.lt
    replace hrz := hrz.below hbx12 hrz.lt
    replace hrs := hrs.below hbx12 hrs.lt
    replace hpa := hpa.below hbx12 hpa.lt
    have hB12 := hB10.trans (hbx12.mono hB10.size)
    clear gx0 gx1 gx2 rx0 rx1 rx2 rx3 rx4 ry0 ry1 ry2 ry3 rz0 rz1 rz2 rz3 rs0 rs1 rs2 rs3 pa0 pa1 pa2 pa3 pa4 pa5
    obtain ⟨gx0, gx1, gx2, -, -, -⟩ := hgx.cells
    obtain ⟨rx0, rx1, rx2, rx3, rx4, -⟩ := hrx.cells
    obtain ⟨ry0, ry1, ry2, ry3, -, -⟩ := hry.cells
    obtain ⟨rz0, rz1, rz2, rz3, -, -⟩ := hrz.cells
    obtain ⟨rs0, rs1, rs2, rs3, -, -⟩ := hrs.cells
    obtain ⟨pa0, pa1, pa2, pa3, pa4, pa5⟩ := hpa.cells
    obtain ⟨pb0, pb1, pb2, pb3, pb4, pb5⟩ := hpb.cells
    go_wp2_with fail
    generalize w11.alloc (.cells #[.int .i64 r.1, .int .i64 r.2.1, .int .i64 r.2.2.1, .int .i64 r.2.2.2.1, .int .i64 r.2.2.2.2, .slice A11 n11 c11] 47) = w12 at *
    refine (PlayerSure_c r A11 n11 c11 _ _ [(a0, a1, a2, a3), (((k : Int) + 1) % 4, a1, a2, a3)] w12 (by rw [hn11'.out]) (by rw [hn11'.out]; simp) hc11 hc11' hsl12.out (by omega)).mono ?_
    rw [hsu.out]
    dsimp only
    rintro e w13 ⟨rfl, hb13⟩
    have hs13 := hb13.size
    have hbx14 := hb13.alloc hb13.size (.cells #[.int .i64 a0, .int .i64 a1, .int .i64 a2, .int .i64 a3] 30)
    have hru : Bx4 (w13.alloc (.cells #[.int .i64 a0, .int .i64 a1, .int .i64 a2, .int .i64 a3] 30)) w13.heap.size (.int .i64 (a0)) (.int .i64 a1) (.int .i64 a2) (.int .i64 a3) 30 := Bx4.made w13 _ _ _ _ _
    have hz14 : w13.heap.size < (w13.alloc (.cells #[.int .i64 a0, .int .i64 a1, .int .i64 a2, .int .i64 a3] 30)).heap.size := by simp
    have hgm14 := hide (hgm12.out.below hbx14 (fun b hb => by have := hb.2; omega))
    replace hgx := hgx.below hbx14 hgx.lt
    replace hrx := hrx.below hbx14 hrx.lt
    replace hry := hry.below hbx14 hry.lt
    replace hrz := hrz.below hbx14 hrz.lt
    replace hrs := hrs.below hbx14 hrs.lt
    replace hpa := hpa.below hbx14 hpa.lt
    replace hpb := hpb.below hbx14 hpb.lt
    have hB14 := hB12.trans (hbx14.mono hB12.size)
    clear gx0 gx1 gx2 rx0 rx1 rx2 rx3 rx4 ry0 ry1 ry2 ry3 rz0 rz1 rz2 rz3 rs0 rs1 rs2 rs3 pa0 pa1 pa2 pa3 pa4 pa5 pb0 pb1 pb2 pb3 pb4 pb5
    obtain ⟨gx0, gx1, gx2, -, -, -⟩ := hgx.cells
    obtain ⟨rx0, rx1, rx2, rx3, rx4, -⟩ := hrx.cells
    obtain ⟨ry0, ry1, ry2, ry3, -, -⟩ := hry.cells
    obtain ⟨rz0, rz1, rz2, rz3, -, -⟩ := hrz.cells
    obtain ⟨rs0, rs1, rs2, rs3, -, -⟩ := hrs.cells
    obtain ⟨pa0, pa1, pa2, pa3, pa4, pa5⟩ := hpa.cells
    obtain ⟨pb0, pb1, pb2, pb3, pb4, pb5⟩ := hpb.cells
    obtain ⟨ru0, ru1, ru2, ru3, -, -⟩ := hru.cells
    go_wp2_with fail
    generalize w13.alloc (.cells #[.int .i64 a0, .int .i64 a1, .int .i64 a2, .int .i64 a3] 30) = w14 at *
    refine (GameDo_c A2 n2 c2 B2 p2 d2 E2 q2 f2 (fun b => w.heap.size ≤ b ∧ b < w1.heap.size) gm r w14 hgm14.out (fun b hb => by have := hb.2; omega) hog.out (okR_NA hor)).mono ?_
    rintro e w15 ⟨A15, n15, gB, gE, rfl, hgo, hw15⟩
    rw [← qa2.out]
    have hs15 := hw15.size
    have hok2 := hide (doG_ok hog.out (okR_NA hor))
    have hsz := hide (show (asS (putG (doG gm r).1)).size ≤ 1048576 by rw [asS_size]; have := putG_len hok2.out; omega)
    have hbx16 := hw15.alloc hw15.size (.cells #[.slice A15 n15 n15, .slice (some ⟨gB, 0, none⟩) 16 16, .slice (some ⟨gE, 0, none⟩) 4 4] 35)
    have hA15 := (Below.refl w15.heap.size w15).alloc (Nat.le_refl _) (.cells #[.slice A15 n15 n15, .slice (some ⟨gB, 0, none⟩) 16 16, .slice (some ⟨gE, 0, none⟩) 4 4] 35)
    have hgz : Bx3 (w15.alloc (.cells #[.slice A15 n15 n15, .slice (some ⟨gB, 0, none⟩) 16 16, .slice (some ⟨gE, 0, none⟩) 4 4] 35)) w15.heap.size (.slice A15 n15 n15) (.slice (some ⟨gB, 0, none⟩) 16 16) (.slice (some ⟨gE, 0, none⟩) 4 4) 35 := Bx3.made w15 _ _ _ _
    have hz16 : w15.heap.size < (w15.alloc (.cells #[.slice A15 n15 n15, .slice (some ⟨gB, 0, none⟩) 16 16, .slice (some ⟨gE, 0, none⟩) 4 4] 35)).heap.size := by simp
    have hgn16 := hide (hgo.below hA15).gmD
    replace hrx := hrx.below hbx16 hrx.lt
    replace hry := hry.below hbx16 hry.lt
    replace hru := hru.below hbx16 hru.lt
    have hB16 := hB14.trans (hbx16.mono hB14.size)
    clear gx0 gx1 gx2 rx0 rx1 rx2 rx3 rx4 ry0 ry1 ry2 ry3 rz0 rz1 rz2 rz3 rs0 rs1 rs2 rs3 pa0 pa1 pa2 pa3 pa4 pa5 pb0 pb1 pb2 pb3 pb4 pb5 ru0 ru1 ru2 ru3 hgx hrz hrs hpa hpb
    obtain ⟨rx0, rx1, rx2, rx3, rx4, -⟩ := hrx.cells
    obtain ⟨ry0, ry1, ry2, ry3, -, -⟩ := hry.cells
    obtain ⟨ru0, ru1, ru2, ru3, -, -⟩ := hru.cells
    obtain ⟨gz0, gz1, gz2, -, -, -⟩ := hgz.cells
    have hlrx := hrx.lt
    have hlry := hry.lt
    have hlru := hru.lt
    have hlgz := hgz.lt
    clear hrun hrun2
    have hrun3 : ∀ W : World, (binOp .eql 30 (.agg #[.int .i64 a0, .int .i64 a1, .int .i64 a2, .int .i64 a3]) (.agg #[.int .i64 a0, .int .i64 a1, .int .i64 a2, .int .i64 a3])).run Tryd.prog W = .ok (.bool true) W := fun W => by
      have := run_eq_reply (a0, a1, a2, a3) (a0, a1, a2, a3) W
      rw [show decide ((a0, a1, a2, a3) = (a0, a1, a2, a3)) = true from decide_eq_true rfl] at this
      exact this
    have e12 : (a1 == r.2.1) = true := by rw [qa1.out]; simp
    go_wp2_with fail
    generalize w15.alloc (.cells #[.slice A15 n15 n15, .slice (some ⟨gB, 0, none⟩) 16 16, .slice (some ⟨gE, 0, none⟩) 4 4] 35) = w16 at *
    have hK0 : w16.heap.size ≤ w16.heap.size := Nat.le_refl _
    refine wp_region_T (SinceB (w16.heap.size) _) [30] [] [118] [0, 1, 2, 3, 4, 5, 6, 7, 8, 9, 10, 11, 12, 13, 14, 15, 16, 17, 18, 19, 20, 21, 22, 23, 24, 25, 26, 27, 28, 29, 30, 31, 32, 33] (by kernel_rfl) (by kernel_rfl) (by kernel_rfl) (SinceB.drew _ _) ?_; simp only [pickL, List.getElem?_cons_succ, List.getElem?_cons_zero]
    go_wp2_with (first
      | (go_at_call 16; have hq := hb17; refine (Crc_c (asS (putG (doG gm r).1)) w17 hsz.out).mono ?_; rintro e w18 ⟨rfl, rfl⟩; rw [asS_list, ← qa3.out]; have hK := hK)
      | (go_at_call 17; refine (GamePut_c A15 n15 n15 (some ⟨gB, 0, none⟩) 16 16 (some ⟨gE, 0, none⟩) 4 4 _ (doG gm r).1 _ (hgn16.out.below (K := w16.heap.size) (Below.drew (Below.refl _ _)) (fun b hb => hb.2)) (fun b hb => hb.2) hok2.out).mono ?_; rintro e w17 ⟨rfl, hb17'⟩; have hb17 : Below w16.heap.size w16 w17 := Below.appR (Below.drew (Below.refl _ _)) hb17'; have hz17 := hb17.size; have hS17 : SinceB (w16.heap.size) w16 w17 := (SinceB.refl _ _).below hb17 (Nat.le_refl _); have rx1' := keepc hb17 rx1; have ry0' := keepc hb17 ry0; have ry1' := keepc hb17 ry1; have ry2' := keepc hb17 ry2; have ry3' := keepc hb17 ry3; have ru0' := keepc hb17 ru0; have ru1' := keepc hb17 ru1; have ru2' := keepc hb17 ru2; have ru3' := keepc hb17 ru3; have hK := hK)
      | (with_reducible refine SinceB.and_ ?_ ?_; (focus (repeat (first | (with_reducible exact SinceB.refl _ _) | (with_reducible assumption) | (with_reducible refine SinceB.drewR ?_) | ((with_reducible refine SinceB.alloc ?_ ?_ _); rotate_left; (focus (first | (with_reducible assumption) | (simp; done) | (simp; omega) | omega))) | ((with_reducible refine SinceB.set ?_ ?_ _); rotate_left; (focus (first | omega | (simp; done) | (simp; omega))))))); intro hS) | ((with_reducible refine wpT_noL ?_ ?_); (focus (first | exact wanted_no _ _ _ rfl rfl rfl | exact wanted_un _ _ _ rfl rfl rfl)); simp only [setO, List.set_cons_succ, List.set_cons_zero]) | ((with_reducible refine wpT_q0 ?_ ?_ ?_ ?_); (focus rfl); (focus rfl); (focus rfl); intro K hK) | ((with_reducible refine wpT_i ?_ ?_); (focus (refine ⟨_, _, _, _, _, _, _, _, rfl, rfl, rfl, rfl, rfl, ?_⟩; omega)); intro K hK) | ((with_reducible apply wpT_lB); (focus rfl); (focus rfl); (focus rfl); (focus rfl); (focus (first | exact SinceB.drew _ _ | (with_reducible assumption))); (focus (simp <;> omega)); (focus go_simp); intro K hK) | ((with_reducible apply wpT_lwB); (focus exact wanted_yes _ _ _ rfl rfl rfl); (focus rfl); (focus rfl); (focus rfl); (focus (first | exact SinceB.drew _ _ | (with_reducible assumption))); (focus (simp <;> omega)); (focus go_simp); intro K hK) | ((with_reducible refine wpT_xs0 ?_ ?_ ?_); (focus rfl); (focus rfl); intro K hK) | ((with_reducible refine wpT_q1 ?_ ?_ ?_ ?_); (focus exact wanted_yes _ _ _ rfl rfl rfl); (focus rfl); (focus rfl); intro K hK) | ((with_reducible refine wpT_xs1 ?_ ?_ ?_); (focus exact wanted_yes _ _ _ rfl rfl rfl); (focus rfl); intro K hK) | ((with_reducible refine wpT_nil ?_); try dsimp only)
      | fail)
    go_ret
    exact ⟨by first | rfl | (show Ending.returned (Value.bool (a1 == r.2.1)) = _; rw [e12]), hB16.trans (hb17.mono hB16.size)⟩
end Go.Proofs.YtajmfonepnkofaaDoor
namespace Go.Proofs.YtajmfonepnkofaaDoor
open Go.RowKit Rg
set_option linter.unusedVariables false
set_option linter.unusedSimpArgs false

/-! ### The row of 'laws.FnReplyOf' -/
namespace FnReplyOf
open Go.ChangeShapes Go.WideShapes Go.ChangeAt Go.RowKit
open Go.ChangeMaps (open_string shut_string)
theorem own : ownKnob Tryd.prog.godebug = none := by kernel_rfl
theorem laidOut : laidOutB Tryd.prog = true := by kernel_rfl

theorem door_met (os : Os) (args : Array Value) : laidMetH Tryd.prog Rows.fnReplyOfRow.laid ((World.doorLaid Tryd.prog 24 os).forCall (fun _ _ => 0) ⟨#[], args, []⟩).memory :=
  laidMetH_of_parts3 (fuel := 8) (laidMet_of_run' 8 (by kernel_rfl) (by kernel_rfl)) (by kernel_rfl) (by kernel_rfl)

set_option maxRecDepth 100000 in
set_option maxHeartbeats 1000000 in
theorem lifted (os : Os) (started : os.Started) (H : Type) (enc : TypeId × Value → H) :
    ReturnsInHanded {} Tryd.checked os 4 .any (fun w args => (Rows.fnReplyOfSpec.pre enc Tryd.prog Tryd.f4 [] false w args ∧ laidMetH Tryd.prog Rows.fnReplyOfRow.laid w) ∧ sizedMet enc Tryd.prog Tryd.f4 (OpenSpec.ofChange Rows.fnReplyOfSpec) false w args)
      (Rows.fnReplyOfSpec.post enc Tryd.prog Tryd.f4 false true false false) := by
  refine returnsInHanded_of_change_and (C := Tryd.checked) (X := fun w _ => laidMetH Tryd.prog Rows.fnReplyOfRow.laid w) (fun _ _ _ hh h => h.of_heap hh) own started (by kernel_rfl) Tryd.func4
    (ChangeSpec.witness_shaped (enc := enc) (C := Tryd.checked) (os := os) (X := fun w _ => laidMetH Tryd.prog Rows.fnReplyOfRow.laid w) false (World.doorLaid Tryd.prog 24 os) #[.slice none 0 0] 8 rfl (World.shaped_of_RefB (by kernel_rfl) (by kernel_rfl)) (by kernel_rfl) (by kernel_rfl) (by kernel_rfl) (door_met os _)) ?_
  intro W base args ds gs before hval0 hW _ _ hL _
  have hval : ∀ (j : Nat) t v, Tryd.f4.params[j]? = some t → args[j]? = some v → Value.okWide Tryd.prog W .any base t v := hval0
  have hW' := hW
  obtain ⟨p, q, hA0, hV, rfl, hfz, hnd⟩ := hW
  have hA : DataW.TrodAll enc Tryd.prog W 0 (fun _ => true) true Tryd.f4.params.toList args.toList ds p := hA0
  rw [Tryd.params4] at hA hval
  obtain ⟨v0, vs0, d0, ds0, p0, q0, hargs, rfl, rfl, h0, r0⟩ := trodAll_cons hA
  obtain ⟨rfl, rfl, rfl⟩ := trodAll_nil r0
  obtain rfl : args = #[v0] := by cases args; simp_all
  obtain ⟨rfl, rfl⟩ := trodVars_none hV
  have k0 := h0
  have lt0 : ∀ x ∈ p0, x.block < W.heap.size := by obtain ⟨m, hm⟩ := k0; exact DataW.trod_lt m _ _ _ hm
  obtain ⟨A0, len0, cap0, z0, rfl, hl0, hc0, hm0, w0, g0⟩ : ∃ A len cap, ∃ xs : List Int, v0 = .slice A len cap ∧ len = xs.length ∧ len ≤ cap ∧ cap ≤ maxLen ∧ Sl encU 1 W 0 W.heap.size A xs ∧ ∀ x ∈ xs, (fun b => 0 ≤ b ∧ b < 256) x := by
    obtain ⟨fuel, hf⟩ := h0
    obtain ⟨a0, len0, cap0, rfl⟩ := okWide_slice Tryd.underlying42 (hval 0 42 v0 rfl rfl)
    simp only [Value.cells] at hf
    exact trod_sl (encA := encU) (sz := 1) (Good := fun b => 0 ≤ b ∧ b < 256) Tryd.underlying42 (by kernel_rfl) (by omega) encU_len hf (fun n cs y hy => (by obtain ⟨k, h1, _, h2⟩ := DataW.trod_int Tryd.underlying5 hy; exact ⟨k, h1, u8_wf h2⟩))
  clear hA0 hval0
  refine (lawReplyOf A0 len0 cap0 z0 W hl0 hc0 hm0 w0 g0).mono fun e W' ⟨he, bel⟩ => ?_
  subst he
  exact ⟨_, rfl, _, _, _, [], _, [], hW', trodAll_mk1 (shut_bool Tryd.underlying4 _), (trodAll_cons_mk (Below.trod laidOut (by kernel_rfl) (of_decide_eq_true (by kernel_rfl)) k0 bel lt0) trodAll_mk0), rfl, bel.frame _, fun h => by cases h⟩

theorem over : Rows.fnReplyOfRow.holds Tryd.pinned (OpenSpec.ofChange Rows.fnReplyOfSpec) :=
  OpenClaim.holds_of_wide 4 Tryd.f4 rfl rfl rfl rfl rfl rfl rfl ⟨rfl, rfl, rfl, rfl, rfl⟩ rfl rfl rfl rfl rfl (by kernel_rfl) Tryd.func4 (by kernel_rfl)
    (of_decide_eq_true (by kernel_rfl)) (by unfold Func.isWrapper; first | (rw [if_pos (by decide +kernel)]; kernel_rfl) | (rw [if_neg (by decide +kernel)]; exact ⟨rfl, rfl⟩))
    (fun os started H enc _ => lifted os started H enc)

theorem proved : Rows.FnReplyOfCardSaid :=
  Claim7.holds_tied_plain_at .later [] [.data, .data, .data] true (true, "c37f6de92cc2b832fd2fdbd6888db135bf5cb128044d97dab06dee5a46785510") false
    over (fun _ h => by cases h) (by kernel_rfl) (fun _ h => by cases h) fnReplyOf_row_tie rfl ⟨rfl, rfl⟩ (by kernel_rfl) rfl
    (fun f fn hf hfn => by
      obtain rfl : f = 4 := Option.some.inj ((show Tryd.prog.funcNamed Rows.fnReplyOfRow.func = some 4 by kernel_rfl).symm.trans hf) |>.symm
      obtain rfl : fn = Tryd.f4 := (Option.some.inj (Tryd.func4.symm.trans hfn)).symm
      exact ⟨by kernel_rfl, fun j t ht => by
        rw [Tryd.params4] at ht
        have hm : t ∈ [42] := by simpa using Array.mem_of_getElem? ht
        have hall : ([42].all fun u => !Tryd.prog.wantsStandIn u) = true := by kernel_rfl
        exact (show Tryd.prog.wantsStandIn t = false by simpa using List.all_eq_true.1 hall t hm)⟩)
    (by kernel_rfl)
end FnReplyOf
end Go.Proofs.YtajmfonepnkofaaDoor
