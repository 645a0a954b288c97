/-
  Drawn letters, some of them spoilt: 'l20AnyMsg'. (Printed by gen_nvf.py.)
  Conditions: none.
-/
import Derived.Test.YtkmoefgnejhpoaaNVe
import Derived.Test.YtkmoefgnejhpoaaRegA
namespace Go.Proofs.Ytkmoefgnejhpoaa
open Go.RowKit Rg
set_option linter.unusedVariables false
set_option linter.unusedSimpArgs false

theorem Drawn.keep {w w' : World} {lo : Nat} {m : MsgT} {va vb : Value} (h : Drawn w lo m va vb) (hz : w.heap.size ≤ w'.heap.size) (hk : ∀ b, lo ≤ b → b < w.heap.size → w'.heap[b]? = w.heap[b]?) : Drawn w' lo m va vb := by
  rcases h with ⟨h1, h2, h3, h4⟩ | ⟨h1, h2, h3, h4⟩
  · exact .inl ⟨h1, h2, h3.keep (fun b hb => hk b (h3.lt b hb).1 (h3.lt b hb).2), h4⟩
  · exact .inr ⟨h1, h2, h3.keep vote_kept hz hk, h4⟩
theorem Drawn.rd {w : World} {lo : Nat} {m : MsgT} {va vb : Value} (h : Drawn w lo m va vb) : ∃ A n c B p d, va = .slice A n c ∧ vb = .slice B p d ∧ RdN 7 clR w lo w.heap.size A n c m.2.2.2.2.2.1 ∧ RdN 2 voteR w lo w.heap.size B p d m.2.2.2.2.2.2 ∧ n ≤ 3 ∧ p ≤ 4 ∧ c ≤ maxLen ∧ d ≤ maxLen ∧ ∀ v ∈ m.2.2.2.2.2.2, v.2.length ≤ 3 := by
  rcases h with ⟨rfl, h2, h3, h4⟩ | ⟨rfl, h2, h3, h4, h5⟩
  · obtain ⟨A, c, rfl, _, h6, _⟩ := h3.form
    exact ⟨A, _, c, none, 0, 0, rfl, rfl, h3.rdn encClaim_len, by rw [h2]; exact RdN.nil_ _ _ _ _ _ _ _ (by simp [maxLen]), h4, by omega, h6, by simp [maxLen], by rw [h2]; simp⟩
  · obtain ⟨B, d, rfl, _, h6, _⟩ := h3.form
    exact ⟨none, 0, 0, B, _, d, rfl, rfl, by rw [h2]; exact RdN.nil_ _ _ _ _ _ _ _ (by simp [maxLen]), h3.rdn vote_kept, by omega, h4, by simp [maxLen], h6, h5⟩
theorem Drawn.own {w : World} {lo : Nat} {m : MsgT} {va vb : Value} (h : Drawn w lo m va vb) : Own encClaim 7 40 w lo va m.2.2.2.2.2.1 := by
  rcases h with ⟨_, _, h3, _⟩ | ⟨rfl, h2, _⟩
  · exact h3
  · rw [h2]; exact Own.nil_ _ _ _ _ _
theorem Drawn.app {w w' : World} {lo : Nat} {m : MsgT} {va : Value} {B : Option Addr} {p d : Nat} (h : Drawn w lo m va (.slice B p d)) (hg : w.grownBy w' va.ownBlock) : RdN 2 voteR w' lo w'.heap.size B p d m.2.2.2.2.2.2 := by
  rcases h with ⟨h1, h2, _⟩ | ⟨rfl, _, h3, _⟩
  · injection h1 with e1 e2 e3
    subst e1; subst e2; subst e3
    rw [h2]; exact RdN.nil_ _ _ _ _ _ _ _ (by simp [maxLen])
  · exact (h3.keep vote_kept hg.size (fun b _ hb => hg.block b hb (by simp [Value.ownBlock]))).rdn vote_kept
theorem Drawn.votes {w w' : World} {lo : Nat} {m : MsgT} {va : Value} {B : Option Addr} {p d : Nat} (h : Drawn w lo m va (.slice B p d)) (hk : va.ownBlock = none → ∀ b, lo ≤ b → b < w.heap.size → w'.heap[b]? = w.heap[b]?) : RdN 2 voteR w' lo w.heap.size B p d m.2.2.2.2.2.2 := by
  rcases h with ⟨h1, h2, _⟩ | ⟨rfl, _, h3, _⟩
  · injection h1 with e1 e2 e3
    subst e1; subst e2; subst e3
    rw [h2]; exact RdN.nil_ _ _ _ _ _ _ _ (by simp [maxLen])
  · exact (h3.rdn vote_kept).keep vote_kept (hk rfl)
theorem own_ne_box {α : Type} {enc : α → List Value} {sz lo b : Nat} {e e' : TypeId} {w : World} {v : Value} {xs : List α} {arr : Array Value} {z : Nat × Nat} (h : Own enc sz e w lo v xs) (hb : w.heap[b]? = some (.cells arr e' z)) (he : e ≠ e') : ∀ k, v.ownBlock = some k → k ≠ b := by
  intro k hk e0
  subst e0
  rcases h with ⟨rfl, _⟩ | ⟨g, cap, cur, rfl, _, hh, _⟩
  · simp [Value.ownBlock] at hk
  · simp [Value.ownBlock] at hk
    subst hk
    rw [hh] at hb
    injection hb with hb
    injection hb with _ hb
    exact he hb
/-- A drawn letter that reads. -/
structure ReadM (w : World) (lo : Nat) (m : MsgT) (A : Option Addr) (n c : Nat) (B : Option Addr) (p d : Nat) : Prop where
  cl : RdN 7 clR w lo w.heap.size A n c m.2.2.2.2.2.1
  vo : RdN 2 voteR w lo w.heap.size B p d m.2.2.2.2.2.2
  n10 : n ≤ 10
  p10 : p ≤ 10
  small : ∀ v ∈ m.2.2.2.2.2.2, v.2.length ≤ 10
  view : -10 ≤ m.2.2.1 ∧ m.2.2.1 ≤ 10
theorem ReadM.of {w : World} {lo : Nat} {m m' : MsgT} {A B : Option Addr} {n c p d : Nat} (h1 : RdN 7 clR w lo w.heap.size A n c m.2.2.2.2.2.1) (h2 : RdN 2 voteR w lo w.heap.size B p d m.2.2.2.2.2.2) (h3 : n ≤ 3) (h4 : p ≤ 4) (h5 : ∀ v ∈ m.2.2.2.2.2.2, v.2.length ≤ 3)
    (e1 : m'.2.2.2.2.2.1 = m.2.2.2.2.2.1) (e2 : m'.2.2.2.2.2.2 = m.2.2.2.2.2.2) (hv : -10 ≤ m'.2.2.1 ∧ m'.2.2.1 ≤ 10) : ReadM w lo m' A n c B p d :=
  ⟨by rw [e1]; exact h1, by rw [e2]; exact h2, by omega, by omega, by rw [e2]; exact fun v hv => Nat.le_trans (h5 v hv) (by omega), hv⟩
/-- What 'l20AnyMsg' leaves (a word of its own, so that no walk opens it). -/
def AnyPost (g P : Nat) (w : World) (e : Ending) (w' : World) : Prop := ∃ (m : MsgT) (A : Option Addr) (n c : Nat) (B : Option Addr) (p d : Nat), e = .returned (.agg #[.int .i64 m.1, .int .i64 m.2.1, .int .i64 m.2.2.1, .int .i64 m.2.2.2.1, .int .i64 m.2.2.2.2.1.1, .int .i64 m.2.2.2.2.1.2.1, .int .i64 m.2.2.2.2.1.2.2.1, .int .i64 m.2.2.2.2.1.2.2.2.1, .int .i64 m.2.2.2.2.1.2.2.2.2, .slice A n c, .slice B p d]) ∧ ReadM w' w.heap.size m A n c B p d ∧ Rd w' g (P + 1200) ∧ Only w.heap.size (some g) w w'
theorem AnyPost.mk {g P : Nat} {w : World} {e : Ending} {w' : World} (h : ∃ (m : MsgT) (A : Option Addr) (n c : Nat) (B : Option Addr) (p d : Nat), e = .returned (.agg #[.int .i64 m.1, .int .i64 m.2.1, .int .i64 m.2.2.1, .int .i64 m.2.2.2.1, .int .i64 m.2.2.2.2.1.1, .int .i64 m.2.2.2.2.1.2.1, .int .i64 m.2.2.2.2.1.2.2.1, .int .i64 m.2.2.2.2.1.2.2.2.1, .int .i64 m.2.2.2.2.1.2.2.2.2, .slice A n c, .slice B p d]) ∧ ReadM w' w.heap.size m A n c B p d ∧ Rd w' g (P + 1200) ∧ Only w.heap.size (some g) w w') : AnyPost g P w e w' := h
theorem anyFin {g P Q : Nat} {w w1 w7 : World} {m : MsgT} {c5 : ClaimT} {A B A7 : Option Addr} {n c p d c7 : Nat} (hQ : Q ≤ P + 1200) (hg : g < w.heap.size) (hz : w.heap.size < w1.heap.size)
    (hdr : Drawn w1 (w.heap.size + 1) m (.slice A n c) (.slice B p d)) (hch : (Value.slice A n c).ownBlock = none → ∀ b, w.heap.size + 1 ≤ b → b < w1.heap.size → w7.heap[b]? = w1.heap[b]?)
    (ho7 : Own encClaim 7 40 w7 (w.heap.size + 1) (.slice A7 (m.2.2.2.2.2.1 ++ [c5]).length c7) (m.2.2.2.2.2.1 ++ [c5])) (hy7 : LBox w7 w1.heap.size m (.slice A n c) (.slice B p d)) (hlen : m.2.2.2.2.2.1.length ≤ 3) (hp4 : p ≤ 4) (hsm : ∀ v ∈ m.2.2.2.2.2.2, v.2.length ≤ 3)
    (hview : 0 ≤ m.2.2.1 ∧ m.2.2.1 ≤ 2) (hr7 : Rd w7 g Q) (ho57 : Only w.heap.size (some g) w w7) (hgw1 : g < w1.heap.size) (hl7 : w1.heap.size < w7.heap.size) :
    AnyPost g P w (.returned (.agg #[.int .i64 m.1, .int .i64 m.2.1, .int .i64 m.2.2.1, .int .i64 m.2.2.2.1, .int .i64 m.2.2.2.2.1.1, .int .i64 m.2.2.2.2.1.2.1, .int .i64 m.2.2.2.2.1.2.2.1, .int .i64 m.2.2.2.2.1.2.2.2.1, .int .i64 m.2.2.2.2.1.2.2.2.2, .slice A7 (m.2.2.2.2.2.1.length + 1) c7, .slice B p d])) (putCells (w7.setCell ⟨w1.heap.size, 9, none⟩ (.slice A7 (m.2.2.2.2.2.1.length + 1) c7)) w.heap.size 0 [.int .i64 m.1, .int .i64 m.2.1, .int .i64 m.2.2.1, .int .i64 m.2.2.2.1, .int .i64 m.2.2.2.2.1.1, .int .i64 m.2.2.2.2.1.2.1, .int .i64 m.2.2.2.2.1.2.2.1, .int .i64 m.2.2.2.2.1.2.2.2.1, .int .i64 m.2.2.2.2.1.2.2.2.2, .slice A7 (m.2.2.2.2.2.1.length + 1) c7, .slice B p d]) := by
  rw [List.length_append, List.length_singleton] at ho7
  have hkp := fun k (h1 : k ≠ w1.heap.size) (h2 : k ≠ w.heap.size) => keep2 w7 w1.heap.size w.heap.size 9 (.slice A7 (m.2.2.2.2.2.1.length + 1) c7) [.int .i64 m.1, .int .i64 m.2.1, .int .i64 m.2.2.1, .int .i64 m.2.2.2.1, .int .i64 m.2.2.2.2.1.1, .int .i64 m.2.2.2.2.1.2.1, .int .i64 m.2.2.2.2.1.2.2.1, .int .i64 m.2.2.2.2.1.2.2.2.1, .int .i64 m.2.2.2.2.1.2.2.2.2, .slice A7 (m.2.2.2.2.2.1.length + 1) c7, .slice B p d] k h1 h2
  have hsz7 := size2 w7 w1.heap.size w.heap.size 9 (.slice A7 (m.2.2.2.2.2.1.length + 1) c7) [.int .i64 m.1, .int .i64 m.2.1, .int .i64 m.2.2.1, .int .i64 m.2.2.2.1, .int .i64 m.2.2.2.2.1.1, .int .i64 m.2.2.2.2.1.2.1, .int .i64 m.2.2.2.2.1.2.2.1, .int .i64 m.2.2.2.2.1.2.2.2.1, .int .i64 m.2.2.2.2.1.2.2.2.2, .slice A7 (m.2.2.2.2.2.1.length + 1) c7, .slice B p d]
  have f7 := finN (j := 9) [.slice A7 (m.2.2.2.2.2.1.length + 1) c7] hgw1 (Nat.le_of_lt hz) hr7 ho57
  have hob := own_ne_box ho7 hy7 (by decide)
  have hfr : Rd (putCells (w7.setCell ⟨w1.heap.size, 9, none⟩ (.slice A7 (m.2.2.2.2.2.1.length + 1) c7)) w.heap.size 0 [.int .i64 m.1, .int .i64 m.2.1, .int .i64 m.2.2.1, .int .i64 m.2.2.2.1, .int .i64 m.2.2.2.2.1.1, .int .i64 m.2.2.2.2.1.2.1, .int .i64 m.2.2.2.2.1.2.2.1, .int .i64 m.2.2.2.2.1.2.2.2.1, .int .i64 m.2.2.2.2.1.2.2.2.2, .slice A7 (m.2.2.2.2.2.1.length + 1) c7, .slice B p d]) g _ ∧ Only w.heap.size (some g) w (putCells (w7.setCell ⟨w1.heap.size, 9, none⟩ (.slice A7 (m.2.2.2.2.2.1.length + 1) c7)) w.heap.size 0 [.int .i64 m.1, .int .i64 m.2.1, .int .i64 m.2.2.1, .int .i64 m.2.2.2.1, .int .i64 m.2.2.2.2.1.1, .int .i64 m.2.2.2.2.1.2.1, .int .i64 m.2.2.2.2.1.2.2.1, .int .i64 m.2.2.2.2.1.2.2.2.1, .int .i64 m.2.2.2.2.1.2.2.2.2, .slice A7 (m.2.2.2.2.2.1.length + 1) c7, .slice B p d]) := finN (j := 0) [.int .i64 m.1, .int .i64 m.2.1, .int .i64 m.2.2.1, .int .i64 m.2.2.2.1, .int .i64 m.2.2.2.2.1.1, .int .i64 m.2.2.2.2.1.2.1, .int .i64 m.2.2.2.2.1.2.2.1, .int .i64 m.2.2.2.2.1.2.2.2.1, .int .i64 m.2.2.2.2.1.2.2.2.2, .slice A7 (m.2.2.2.2.2.1.length + 1) c7, .slice B p d] hg (Nat.le_refl _) f7.1 f7.2
  generalize (putCells (w7.setCell ⟨w1.heap.size, 9, none⟩ (.slice A7 (m.2.2.2.2.2.1.length + 1) c7)) w.heap.size 0 [.int .i64 m.1, .int .i64 m.2.1, .int .i64 m.2.2.1, .int .i64 m.2.2.2.1, .int .i64 m.2.2.2.2.1.1, .int .i64 m.2.2.2.2.1.2.1, .int .i64 m.2.2.2.2.1.2.2.1, .int .i64 m.2.2.2.2.1.2.2.2.1, .int .i64 m.2.2.2.2.1.2.2.2.2, .slice A7 (m.2.2.2.2.2.1.length + 1) c7, .slice B p d]) = wf at *
  have hvoF : RdN 2 voteR wf (w.heap.size + 1) w1.heap.size B p d m.2.2.2.2.2.2 := hdr.votes (fun hnone b hb1 hb2 => (hkp b (by omega) (by omega)).trans (hch hnone b hb1 hb2))
  have hclF : RdN 7 clR wf (w.heap.size + 1) wf.heap.size A7 (m.2.2.2.2.2.1.length + 1) c7 (m.2.2.2.2.2.1 ++ [c5]) := (ho7.keep (w' := wf) (fun b hb => hkp b (hob b hb) (by have := (ho7.lt b hb).1; omega))).rdn encClaim_len
  refine AnyPost.mk ⟨(m.1, m.2.1, m.2.2.1, m.2.2.2.1, m.2.2.2.2.1, m.2.2.2.2.2.1 ++ [c5], m.2.2.2.2.2.2), A7, _, c7, B, p, d, rfl, ?_, hfr.1.mono (by omega), hfr.2⟩
  exact ⟨hclF.mono (flat_kept _) (by omega) (Nat.le_refl _), hvoF.mono vote_kept (by omega) (by omega), by simp; omega, by omega, fun v hv => Nat.le_trans (hsm v hv) (by omega), ⟨by dsimp only; omega, by dsimp only; omega⟩⟩
set_option maxRecDepth 100000 in
set_option maxHeartbeats 4000000 in
theorem l20AnyMsg_c (g P : Nat) (w : World) (hr : Rd w g P) (hP : P ≤ 8000) :
    Calls Try.prog 10 #[.pointer (some ⟨g, 0, none⟩)] w fun e w' => AnyPost g P w e w' := by
  have hg := hr.lt
  have hb0 : Below w.heap.size w (w.alloc (.cells #[.int .i64 0, .int .i64 0, .int .i64 0, .int .i64 0, .int .i64 0, .int .i64 0, .int .i64 0, .int .i64 0, .int .i64 0, .slice none 0 0, .slice none 0 0] 28)) := (Below.refl _ _).alloc (Nat.le_refl _) _
  have hx0 : LBox (w.alloc (.cells #[.int .i64 0, .int .i64 0, .int .i64 0, .int .i64 0, .int .i64 0, .int .i64 0, .int .i64 0, .int .i64 0, .int .i64 0, .slice none 0 0, .slice none 0 0] 28)) w.heap.size (0, 0, 0, 0, (0, 0, 0, 0, 0), [], []) (.slice none 0 0) (.slice none 0 0) := heap_alloc_new w (.cells #[.int .i64 0, .int .i64 0, .int .i64 0, .int .i64 0, .int .i64 0, .int .i64 0, .int .i64 0, .int .i64 0, .int .i64 0, .slice none 0 0, .slice none 0 0] 28)
  have hz0 : Hid ((w.alloc (.cells #[.int .i64 0, .int .i64 0, .int .i64 0, .int .i64 0, .int .i64 0, .int .i64 0, .int .i64 0, .int .i64 0, .int .i64 0, .slice none 0 0, .slice none 0 0] 28)).heap.size = w.heap.size + 1) := hide (by simp)
  have hr0 := hr.keep hb0
  have ho0 : Only w.heap.size (some g) w (w.alloc (.cells #[.int .i64 0, .int .i64 0, .int .i64 0, .int .i64 0, .int .i64 0, .int .i64 0, .int .i64 0, .int .i64 0, .int .i64 0, .slice none 0 0, .slice none 0 0] 28)) := Only.of_below hb0
  have hgb : some g ≠ some w.heap.size := by intro h; injection h with h; omega
  go_enter Try.func10, Try.ntmps10
  go_wp2_with fail
  generalize w.alloc (.cells #[.int .i64 0, .int .i64 0, .int .i64 0, .int .i64 0, .int .i64 0, .int .i64 0, .int .i64 0, .int .i64 0, .int .i64 0, .slice none 0 0, .slice none 0 0] 28) = w0 at *
  refine (l20Msg_c g _ w0 hr0 (by omega)).mono ?_
  rintro e w1 ⟨m, va, vb, rfl, hview, hdr, hr1, h1⟩
  have hx1 := hx0.only h1 hgb
  have ho1 := ho0.trans (h1.mono ho0.size)
  have hz1 : w.heap.size + 1 ≤ w1.heap.size := by have := hz0.out; have := h1.size; omega
  rw [hz0.out] at hdr
  obtain ⟨A, n, c, B, p, d, rfl, rfl, hcl, hvo, hn3, hp4, hcm, hdm, hsm⟩ := hdr.rd
  unfold maxLen at hcm hdm
  have hnc := hcl.cap
  have hpd := hvo.cap
  have hA := (Below.refl w1.heap.size w1).alloc (Nat.le_refl _) (.cells #[.int .i64 m.1, .int .i64 m.2.1, .int .i64 m.2.2.1, .int .i64 m.2.2.2.1, .int .i64 m.2.2.2.2.1.1, .int .i64 m.2.2.2.2.1.2.1, .int .i64 m.2.2.2.2.1.2.2.1, .int .i64 m.2.2.2.2.1.2.2.2.1, .int .i64 m.2.2.2.2.1.2.2.2.2, .slice A n c, .slice B p d] 28)
  have hy2 : LBox (w1.alloc (.cells #[.int .i64 m.1, .int .i64 m.2.1, .int .i64 m.2.2.1, .int .i64 m.2.2.2.1, .int .i64 m.2.2.2.2.1.1, .int .i64 m.2.2.2.2.1.2.1, .int .i64 m.2.2.2.2.1.2.2.1, .int .i64 m.2.2.2.2.1.2.2.2.1, .int .i64 m.2.2.2.2.1.2.2.2.2, .slice A n c, .slice B p d] 28)) w1.heap.size m (.slice A n c) (.slice B p d) := heap_alloc_new w1 (.cells #[.int .i64 m.1, .int .i64 m.2.1, .int .i64 m.2.2.1, .int .i64 m.2.2.2.1, .int .i64 m.2.2.2.2.1.1, .int .i64 m.2.2.2.2.1.2.1, .int .i64 m.2.2.2.2.1.2.2.1, .int .i64 m.2.2.2.2.1.2.2.2.1, .int .i64 m.2.2.2.2.1.2.2.2.2, .slice A n c, .slice B p d] 28)
  have hx2 := hx1.below hA hx1.lt
  have hr2 := hr1.keep hA
  have ho2 := ho1.trans ((Only.of_below hA).mono ho1.size)
  have hgy : some g ≠ some w1.heap.size := by intro h; injection h with h; have := hr1.lt; omega
  have hgw1 : g < w1.heap.size := hr1.lt
  have hkA := hide (fun b (h : b < w1.heap.size) => hA.block b h)
  have hdr' := hide hdr
  have hview' := hide hview
  have hcl' := hide hcl
  have hvo' := hide hvo
  have hsm' := hide hsm
  clear h1 hr0 hr1 hx0 hx1 ho0 ho1 hA hb0 hr hdr hview hcl hvo hsm
  obtain ⟨x0, x1, x2, x3, x4, x5, x6, x7, x8, x9, x10, xf0, xf1, xf2, xf3, xf4, xf5, xf6, xf7, xf8, xf9, xf10⟩ := hx2.cells
  obtain ⟨y0, y1, y2, y3, y4, y5, y6, y7, y8, y9, y10, yf0, yf1, yf2, yf3, yf4, yf5, yf6, yf7, yf8, yf9, yf10⟩ := hy2.cells
  have hlx := hx2.lt
  have hly := hy2.lt
  go_wp2_with fail
  generalize w1.alloc (.cells #[.int .i64 m.1, .int .i64 m.2.1, .int .i64 m.2.2.1, .int .i64 m.2.2.2.1, .int .i64 m.2.2.2.2.1.1, .int .i64 m.2.2.2.2.1.2.1, .int .i64 m.2.2.2.2.1.2.2.1, .int .i64 m.2.2.2.2.1.2.2.2.1, .int .i64 m.2.2.2.2.1.2.2.2.2, .slice A n c, .slice B p d] 28) = w2 at *
  refine (pick_c g _ 12 w2 hr2 (by omega) (by omega)).mono ?_
  rintro e w3 ⟨k3, rfl, hk3, hr3, h3⟩
  have hx3 := hx2.only h3 hgb
  have hy3 := hy2.only h3 hgy
  have ho3 := ho2.trans (h3.mono ho2.size)
  have hk3b := hide (fun b (h : b < w1.heap.size) (hne : g ≠ b) => (h3.block b (by omega) (fun e => hne (by injection e))).trans (hkA.out b h))
  have hz3 : w1.heap.size < w3.heap.size := by have := h3.size; omega
  obtain ⟨x0, x1, x2, x3, x4, x5, x6, x7, x8, x9, x10, xf0, xf1, xf2, xf3, xf4, xf5, xf6, xf7, xf8, xf9, xf10⟩ := hx3.cells
  obtain ⟨y0, y1, y2, y3, y4, y5, y6, y7, y8, y9, y10, yf0, yf1, yf2, yf3, yf4, yf5, yf6, yf7, yf8, yf9, yf10⟩ := hy3.cells
  clear hk3 h3 hx2 hy2 hr2 ho2
  rcases (show k3 = 0 ∨ k3 = 1 ∨ k3 = 2 ∨ k3 = 3 ∨ k3 = 4 ∨ 5 ≤ k3 by omega) with h0 | h0 | h0 | h0 | h0 | h0
  · have d0 : ((k3 : Int) == 0) = true := by rw [h0]; decide
    have d1 : ((k3 : Int) == 1) = false := by rw [h0]; decide
    have d2 : ((k3 : Int) == 2) = false := by rw [h0]; decide
    have d3 : ((k3 : Int) == 3) = false := by rw [h0]; decide
    have d4 : ((k3 : Int) == 4) = false := by rw [h0]; decide
    clear h0
    have hs4 := sl_arr encI_len w3 #[.int .i64 0, .int .i64 7, .int .i64 2] 3 [0, 7, 2] rfl
    have hA4 := (Below.refl w3.heap.size w3).alloc (Nat.le_refl _) (.cells #[.int .i64 0, .int .i64 7, .int .i64 2] 3)
    have hr4 := hr3.keep hA4
    have hx4 := hx3.below hA4 hx3.lt
    have hy4 := hy3.below hA4 hy3.lt
    have ho4 := ho3.trans ((Only.of_below hA4).mono ho3.size)
    go_wp2_with fail
    refine (one_c g _ _ _ _ 3 3 [0, 7, 2] _ hr4 (by omega) rfl (by omega) (by omega) hs4 hr3.lt (by simp)).mono ?_
    rintro e w5 ⟨x, hx, rfl, hr5, h5⟩
    have hxv : Hid (-10 ≤ x ∧ x ≤ 10) := hide (by simp only [List.mem_cons, List.not_mem_nil, or_false] at hx; omega)
    have hx5 := hx4.only h5 hgb
    have hy5 := hy4.only h5 hgy
    have ho5 := ho4.trans (h5.mono ho4.size)
    have hk5b := hide (fun b (h : b < w1.heap.size) (hne : g ≠ b) => ((h5.block b (by have := hA4.size; omega) (fun e => hne (by injection e))).trans (hA4.block b (by omega))).trans (hk3b.out b h hne))
    have hz5 : w1.heap.size < w5.heap.size := by have := h5.size; have := hA4.size; omega
    clear hx h5 hs4 hA4 hr4 hx4 hy4 ho4
    obtain ⟨x0, x1, x2, x3, x4, x5, x6, x7, x8, x9, x10, xf0, xf1, xf2, xf3, xf4, xf5, xf6, xf7, xf8, xf9, xf10⟩ := hx5.cells
    obtain ⟨y0, y1, y2, y3, y4, y5, y6, y7, y8, y9, y10, yf0, yf1, yf2, yf3, yf4, yf5, yf6, yf7, yf8, yf9, yf10⟩ := hy5.cells
    have f5 := finN (j := 0) [.int .i64 x] hgw1 (by omega) hr5 ho5
    have hkp := hide (fun k (h1 : k < w1.heap.size) (h2 : k ≠ w.heap.size) (h3 : g ≠ k) => (keep2 w5 w1.heap.size w.heap.size 0 (.int .i64 x) [.int .i64 x, .int .i64 m.2.1, .int .i64 m.2.2.1, .int .i64 m.2.2.2.1, .int .i64 m.2.2.2.2.1.1, .int .i64 m.2.2.2.2.1.2.1, .int .i64 m.2.2.2.2.1.2.2.1, .int .i64 m.2.2.2.2.1.2.2.2.1, .int .i64 m.2.2.2.2.1.2.2.2.2, .slice A n c, .slice B p d] k (by omega) h2).trans (hk5b.out k h1 h3))
    go_wp2
    refine bodyPost_ret (v := .agg #[.int .i64 x, .int .i64 m.2.1, .int .i64 m.2.2.1, .int .i64 m.2.2.2.1, .int .i64 m.2.2.2.2.1.1, .int .i64 m.2.2.2.2.1.2.1, .int .i64 m.2.2.2.2.1.2.2.1, .int .i64 m.2.2.2.2.1.2.2.2.1, .int .i64 m.2.2.2.2.1.2.2.2.2, .slice A n c, .slice B p d]) (by simp [results, Try.results10, go_sem, x0, x1, x2, x3, x4, x5, x6, x7, x8, x9, x10, xf0, xf1, xf2, xf3, xf4, xf5, xf6, xf7, xf8, xf9, xf10, y0, y1, y2, y3, y4, y5, y6, y7, y8, y9, y10, yf0, yf1, yf2, yf3, yf4, yf5, yf6, yf7, yf8, yf9, yf10]) rfl (AnyPost.mk ⟨(x, m.2.1, m.2.2.1, m.2.2.2.1, m.2.2.2.2.1, m.2.2.2.2.2.1, m.2.2.2.2.2.2), A, n, c, B, p, d, rfl, ?_, (finN (j := 0) [.int .i64 x, .int .i64 m.2.1, .int .i64 m.2.2.1, .int .i64 m.2.2.2.1, .int .i64 m.2.2.2.2.1.1, .int .i64 m.2.2.2.2.1.2.1, .int .i64 m.2.2.2.2.1.2.2.1, .int .i64 m.2.2.2.2.1.2.2.2.1, .int .i64 m.2.2.2.2.1.2.2.2.2, .slice A n c, .slice B p d] hg (Nat.le_refl _) f5.1 f5.2).1.mono (by omega), (finN (j := 0) [.int .i64 x, .int .i64 m.2.1, .int .i64 m.2.2.1, .int .i64 m.2.2.2.1, .int .i64 m.2.2.2.2.1.1, .int .i64 m.2.2.2.2.1.2.1, .int .i64 m.2.2.2.2.1.2.2.1, .int .i64 m.2.2.2.2.1.2.2.2.1, .int .i64 m.2.2.2.2.1.2.2.2.2, .slice A n c, .slice B p d] hg (Nat.le_refl _) f5.1 f5.2).2⟩)
    exact ReadM.of (m := m) (((hcl'.out.keep (flat_kept _) (fun b h1 h2 => hkp.out b h2 (by omega) (by omega))).mono (flat_kept _) (by omega) (Nat.le_trans (by omega : w1.heap.size ≤ w5.heap.size) (Nat.le_of_eq (size2 w5 w1.heap.size w.heap.size 0 (.int .i64 x) [.int .i64 x, .int .i64 m.2.1, .int .i64 m.2.2.1, .int .i64 m.2.2.2.1, .int .i64 m.2.2.2.2.1.1, .int .i64 m.2.2.2.2.1.2.1, .int .i64 m.2.2.2.2.1.2.2.1, .int .i64 m.2.2.2.2.1.2.2.2.1, .int .i64 m.2.2.2.2.1.2.2.2.2, .slice A n c, .slice B p d]).symm)))) (((hvo'.out.keep vote_kept (fun b h1 h2 => hkp.out b h2 (by omega) (by omega))).mono vote_kept (by omega) (Nat.le_trans (by omega : w1.heap.size ≤ w5.heap.size) (Nat.le_of_eq (size2 w5 w1.heap.size w.heap.size 0 (.int .i64 x) [.int .i64 x, .int .i64 m.2.1, .int .i64 m.2.2.1, .int .i64 m.2.2.2.1, .int .i64 m.2.2.2.2.1.1, .int .i64 m.2.2.2.2.1.2.1, .int .i64 m.2.2.2.2.1.2.2.1, .int .i64 m.2.2.2.2.1.2.2.2.1, .int .i64 m.2.2.2.2.1.2.2.2.2, .slice A n c, .slice B p d]).symm)))) hn3 hp4 hsm'.out rfl rfl ⟨by have := hview'.out; dsimp only; omega, by have := hview'.out; dsimp only; omega⟩
  · have d0 : ((k3 : Int) == 0) = false := by rw [h0]; decide
    have d1 : ((k3 : Int) == 1) = true := by rw [h0]; decide
    have d2 : ((k3 : Int) == 2) = false := by rw [h0]; decide
    have d3 : ((k3 : Int) == 3) = false := by rw [h0]; decide
    have d4 : ((k3 : Int) == 4) = false := by rw [h0]; decide
    clear h0
    have hs4 := sl_arr encI_len w3 #[.int .i64 (-1), .int .i64 4] 3 [-1, 4] rfl
    have hA4 := (Below.refl w3.heap.size w3).alloc (Nat.le_refl _) (.cells #[.int .i64 (-1), .int .i64 4] 3)
    have hr4 := hr3.keep hA4
    have hx4 := hx3.below hA4 hx3.lt
    have hy4 := hy3.below hA4 hy3.lt
    have ho4 := ho3.trans ((Only.of_below hA4).mono ho3.size)
    go_wp2_with fail
    refine (one_c g _ _ _ _ 2 2 [-1, 4] _ hr4 (by omega) rfl (by omega) (by omega) hs4 hr3.lt (by simp)).mono ?_
    rintro e w5 ⟨x, hx, rfl, hr5, h5⟩
    have hxv : Hid (-10 ≤ x ∧ x ≤ 10) := hide (by simp only [List.mem_cons, List.not_mem_nil, or_false] at hx; omega)
    have hx5 := hx4.only h5 hgb
    have hy5 := hy4.only h5 hgy
    have ho5 := ho4.trans (h5.mono ho4.size)
    have hk5b := hide (fun b (h : b < w1.heap.size) (hne : g ≠ b) => ((h5.block b (by have := hA4.size; omega) (fun e => hne (by injection e))).trans (hA4.block b (by omega))).trans (hk3b.out b h hne))
    have hz5 : w1.heap.size < w5.heap.size := by have := h5.size; have := hA4.size; omega
    clear hx h5 hs4 hA4 hr4 hx4 hy4 ho4
    obtain ⟨x0, x1, x2, x3, x4, x5, x6, x7, x8, x9, x10, xf0, xf1, xf2, xf3, xf4, xf5, xf6, xf7, xf8, xf9, xf10⟩ := hx5.cells
    obtain ⟨y0, y1, y2, y3, y4, y5, y6, y7, y8, y9, y10, yf0, yf1, yf2, yf3, yf4, yf5, yf6, yf7, yf8, yf9, yf10⟩ := hy5.cells
    have f5 := finN (j := 1) [.int .i64 x] hgw1 (by omega) hr5 ho5
    have hkp := hide (fun k (h1 : k < w1.heap.size) (h2 : k ≠ w.heap.size) (h3 : g ≠ k) => (keep2 w5 w1.heap.size w.heap.size 1 (.int .i64 x) [.int .i64 m.1, .int .i64 x, .int .i64 m.2.2.1, .int .i64 m.2.2.2.1, .int .i64 m.2.2.2.2.1.1, .int .i64 m.2.2.2.2.1.2.1, .int .i64 m.2.2.2.2.1.2.2.1, .int .i64 m.2.2.2.2.1.2.2.2.1, .int .i64 m.2.2.2.2.1.2.2.2.2, .slice A n c, .slice B p d] k (by omega) h2).trans (hk5b.out k h1 h3))
    go_wp2
    refine bodyPost_ret (v := .agg #[.int .i64 m.1, .int .i64 x, .int .i64 m.2.2.1, .int .i64 m.2.2.2.1, .int .i64 m.2.2.2.2.1.1, .int .i64 m.2.2.2.2.1.2.1, .int .i64 m.2.2.2.2.1.2.2.1, .int .i64 m.2.2.2.2.1.2.2.2.1, .int .i64 m.2.2.2.2.1.2.2.2.2, .slice A n c, .slice B p d]) (by simp [results, Try.results10, go_sem, x0, x1, x2, x3, x4, x5, x6, x7, x8, x9, x10, xf0, xf1, xf2, xf3, xf4, xf5, xf6, xf7, xf8, xf9, xf10, y0, y1, y2, y3, y4, y5, y6, y7, y8, y9, y10, yf0, yf1, yf2, yf3, yf4, yf5, yf6, yf7, yf8, yf9, yf10]) rfl (AnyPost.mk ⟨(m.1, x, m.2.2.1, m.2.2.2.1, m.2.2.2.2.1, m.2.2.2.2.2.1, m.2.2.2.2.2.2), A, n, c, B, p, d, rfl, ?_, (finN (j := 0) [.int .i64 m.1, .int .i64 x, .int .i64 m.2.2.1, .int .i64 m.2.2.2.1, .int .i64 m.2.2.2.2.1.1, .int .i64 m.2.2.2.2.1.2.1, .int .i64 m.2.2.2.2.1.2.2.1, .int .i64 m.2.2.2.2.1.2.2.2.1, .int .i64 m.2.2.2.2.1.2.2.2.2, .slice A n c, .slice B p d] hg (Nat.le_refl _) f5.1 f5.2).1.mono (by omega), (finN (j := 0) [.int .i64 m.1, .int .i64 x, .int .i64 m.2.2.1, .int .i64 m.2.2.2.1, .int .i64 m.2.2.2.2.1.1, .int .i64 m.2.2.2.2.1.2.1, .int .i64 m.2.2.2.2.1.2.2.1, .int .i64 m.2.2.2.2.1.2.2.2.1, .int .i64 m.2.2.2.2.1.2.2.2.2, .slice A n c, .slice B p d] hg (Nat.le_refl _) f5.1 f5.2).2⟩)
    exact ReadM.of (m := m) (((hcl'.out.keep (flat_kept _) (fun b h1 h2 => hkp.out b h2 (by omega) (by omega))).mono (flat_kept _) (by omega) (Nat.le_trans (by omega : w1.heap.size ≤ w5.heap.size) (Nat.le_of_eq (size2 w5 w1.heap.size w.heap.size 1 (.int .i64 x) [.int .i64 m.1, .int .i64 x, .int .i64 m.2.2.1, .int .i64 m.2.2.2.1, .int .i64 m.2.2.2.2.1.1, .int .i64 m.2.2.2.2.1.2.1, .int .i64 m.2.2.2.2.1.2.2.1, .int .i64 m.2.2.2.2.1.2.2.2.1, .int .i64 m.2.2.2.2.1.2.2.2.2, .slice A n c, .slice B p d]).symm)))) (((hvo'.out.keep vote_kept (fun b h1 h2 => hkp.out b h2 (by omega) (by omega))).mono vote_kept (by omega) (Nat.le_trans (by omega : w1.heap.size ≤ w5.heap.size) (Nat.le_of_eq (size2 w5 w1.heap.size w.heap.size 1 (.int .i64 x) [.int .i64 m.1, .int .i64 x, .int .i64 m.2.2.1, .int .i64 m.2.2.2.1, .int .i64 m.2.2.2.2.1.1, .int .i64 m.2.2.2.2.1.2.1, .int .i64 m.2.2.2.2.1.2.2.1, .int .i64 m.2.2.2.2.1.2.2.2.1, .int .i64 m.2.2.2.2.1.2.2.2.2, .slice A n c, .slice B p d]).symm)))) hn3 hp4 hsm'.out rfl rfl ⟨by have := hview'.out; dsimp only; omega, by have := hview'.out; dsimp only; omega⟩
  · have d0 : ((k3 : Int) == 0) = false := by rw [h0]; decide
    have d1 : ((k3 : Int) == 1) = false := by rw [h0]; decide
    have d2 : ((k3 : Int) == 2) = true := by rw [h0]; decide
    have d3 : ((k3 : Int) == 3) = false := by rw [h0]; decide
    have d4 : ((k3 : Int) == 4) = false := by rw [h0]; decide
    clear h0
    have hs4 := sl_arr encI_len w3 #[.int .i64 (-1), .int .i64 7] 3 [-1, 7] rfl
    have hA4 := (Below.refl w3.heap.size w3).alloc (Nat.le_refl _) (.cells #[.int .i64 (-1), .int .i64 7] 3)
    have hr4 := hr3.keep hA4
    have hx4 := hx3.below hA4 hx3.lt
    have hy4 := hy3.below hA4 hy3.lt
    have ho4 := ho3.trans ((Only.of_below hA4).mono ho3.size)
    go_wp2_with fail
    refine (one_c g _ _ _ _ 2 2 [-1, 7] _ hr4 (by omega) rfl (by omega) (by omega) hs4 hr3.lt (by simp)).mono ?_
    rintro e w5 ⟨x, hx, rfl, hr5, h5⟩
    have hxv : Hid (-10 ≤ x ∧ x ≤ 10) := hide (by simp only [List.mem_cons, List.not_mem_nil, or_false] at hx; omega)
    have hx5 := hx4.only h5 hgb
    have hy5 := hy4.only h5 hgy
    have ho5 := ho4.trans (h5.mono ho4.size)
    have hk5b := hide (fun b (h : b < w1.heap.size) (hne : g ≠ b) => ((h5.block b (by have := hA4.size; omega) (fun e => hne (by injection e))).trans (hA4.block b (by omega))).trans (hk3b.out b h hne))
    have hz5 : w1.heap.size < w5.heap.size := by have := h5.size; have := hA4.size; omega
    clear hx h5 hs4 hA4 hr4 hx4 hy4 ho4
    obtain ⟨x0, x1, x2, x3, x4, x5, x6, x7, x8, x9, x10, xf0, xf1, xf2, xf3, xf4, xf5, xf6, xf7, xf8, xf9, xf10⟩ := hx5.cells
    obtain ⟨y0, y1, y2, y3, y4, y5, y6, y7, y8, y9, y10, yf0, yf1, yf2, yf3, yf4, yf5, yf6, yf7, yf8, yf9, yf10⟩ := hy5.cells
    have f5 := finN (j := 2) [.int .i64 x] hgw1 (by omega) hr5 ho5
    have hkp := hide (fun k (h1 : k < w1.heap.size) (h2 : k ≠ w.heap.size) (h3 : g ≠ k) => (keep2 w5 w1.heap.size w.heap.size 2 (.int .i64 x) [.int .i64 m.1, .int .i64 m.2.1, .int .i64 x, .int .i64 m.2.2.2.1, .int .i64 m.2.2.2.2.1.1, .int .i64 m.2.2.2.2.1.2.1, .int .i64 m.2.2.2.2.1.2.2.1, .int .i64 m.2.2.2.2.1.2.2.2.1, .int .i64 m.2.2.2.2.1.2.2.2.2, .slice A n c, .slice B p d] k (by omega) h2).trans (hk5b.out k h1 h3))
    go_wp2
    refine bodyPost_ret (v := .agg #[.int .i64 m.1, .int .i64 m.2.1, .int .i64 x, .int .i64 m.2.2.2.1, .int .i64 m.2.2.2.2.1.1, .int .i64 m.2.2.2.2.1.2.1, .int .i64 m.2.2.2.2.1.2.2.1, .int .i64 m.2.2.2.2.1.2.2.2.1, .int .i64 m.2.2.2.2.1.2.2.2.2, .slice A n c, .slice B p d]) (by simp [results, Try.results10, go_sem, x0, x1, x2, x3, x4, x5, x6, x7, x8, x9, x10, xf0, xf1, xf2, xf3, xf4, xf5, xf6, xf7, xf8, xf9, xf10, y0, y1, y2, y3, y4, y5, y6, y7, y8, y9, y10, yf0, yf1, yf2, yf3, yf4, yf5, yf6, yf7, yf8, yf9, yf10]) rfl (AnyPost.mk ⟨(m.1, m.2.1, x, m.2.2.2.1, m.2.2.2.2.1, m.2.2.2.2.2.1, m.2.2.2.2.2.2), A, n, c, B, p, d, rfl, ?_, (finN (j := 0) [.int .i64 m.1, .int .i64 m.2.1, .int .i64 x, .int .i64 m.2.2.2.1, .int .i64 m.2.2.2.2.1.1, .int .i64 m.2.2.2.2.1.2.1, .int .i64 m.2.2.2.2.1.2.2.1, .int .i64 m.2.2.2.2.1.2.2.2.1, .int .i64 m.2.2.2.2.1.2.2.2.2, .slice A n c, .slice B p d] hg (Nat.le_refl _) f5.1 f5.2).1.mono (by omega), (finN (j := 0) [.int .i64 m.1, .int .i64 m.2.1, .int .i64 x, .int .i64 m.2.2.2.1, .int .i64 m.2.2.2.2.1.1, .int .i64 m.2.2.2.2.1.2.1, .int .i64 m.2.2.2.2.1.2.2.1, .int .i64 m.2.2.2.2.1.2.2.2.1, .int .i64 m.2.2.2.2.1.2.2.2.2, .slice A n c, .slice B p d] hg (Nat.le_refl _) f5.1 f5.2).2⟩)
    exact ReadM.of (m := m) (((hcl'.out.keep (flat_kept _) (fun b h1 h2 => hkp.out b h2 (by omega) (by omega))).mono (flat_kept _) (by omega) (Nat.le_trans (by omega : w1.heap.size ≤ w5.heap.size) (Nat.le_of_eq (size2 w5 w1.heap.size w.heap.size 2 (.int .i64 x) [.int .i64 m.1, .int .i64 m.2.1, .int .i64 x, .int .i64 m.2.2.2.1, .int .i64 m.2.2.2.2.1.1, .int .i64 m.2.2.2.2.1.2.1, .int .i64 m.2.2.2.2.1.2.2.1, .int .i64 m.2.2.2.2.1.2.2.2.1, .int .i64 m.2.2.2.2.1.2.2.2.2, .slice A n c, .slice B p d]).symm)))) (((hvo'.out.keep vote_kept (fun b h1 h2 => hkp.out b h2 (by omega) (by omega))).mono vote_kept (by omega) (Nat.le_trans (by omega : w1.heap.size ≤ w5.heap.size) (Nat.le_of_eq (size2 w5 w1.heap.size w.heap.size 2 (.int .i64 x) [.int .i64 m.1, .int .i64 m.2.1, .int .i64 x, .int .i64 m.2.2.2.1, .int .i64 m.2.2.2.2.1.1, .int .i64 m.2.2.2.2.1.2.1, .int .i64 m.2.2.2.2.1.2.2.1, .int .i64 m.2.2.2.2.1.2.2.2.1, .int .i64 m.2.2.2.2.1.2.2.2.2, .slice A n c, .slice B p d]).symm)))) hn3 hp4 hsm'.out rfl rfl ⟨by have := hxv.out; dsimp only; omega, by have := hxv.out; dsimp only; omega⟩
  · have d0 : ((k3 : Int) == 0) = false := by rw [h0]; decide
    have d1 : ((k3 : Int) == 1) = false := by rw [h0]; decide
    have d2 : ((k3 : Int) == 2) = false := by rw [h0]; decide
    have d3 : ((k3 : Int) == 3) = true := by rw [h0]; decide
    have d4 : ((k3 : Int) == 4) = false := by rw [h0]; decide
    clear h0
    have hs4 := sl_arr encI_len w3 #[.int .i64 0, .int .i64 6, .int .i64 1] 3 [0, 6, 1] rfl
    have hA4 := (Below.refl w3.heap.size w3).alloc (Nat.le_refl _) (.cells #[.int .i64 0, .int .i64 6, .int .i64 1] 3)
    have hr4 := hr3.keep hA4
    have hx4 := hx3.below hA4 hx3.lt
    have hy4 := hy3.below hA4 hy3.lt
    have ho4 := ho3.trans ((Only.of_below hA4).mono ho3.size)
    go_wp2_with fail
    refine (one_c g _ _ _ _ 3 3 [0, 6, 1] _ hr4 (by omega) rfl (by omega) (by omega) hs4 hr3.lt (by simp)).mono ?_
    rintro e w5 ⟨x, hx, rfl, hr5, h5⟩
    have hxv : Hid (-10 ≤ x ∧ x ≤ 10) := hide (by simp only [List.mem_cons, List.not_mem_nil, or_false] at hx; omega)
    have hx5 := hx4.only h5 hgb
    have hy5 := hy4.only h5 hgy
    have ho5 := ho4.trans (h5.mono ho4.size)
    have hk5b := hide (fun b (h : b < w1.heap.size) (hne : g ≠ b) => ((h5.block b (by have := hA4.size; omega) (fun e => hne (by injection e))).trans (hA4.block b (by omega))).trans (hk3b.out b h hne))
    have hz5 : w1.heap.size < w5.heap.size := by have := h5.size; have := hA4.size; omega
    clear hx h5 hs4 hA4 hr4 hx4 hy4 ho4
    obtain ⟨x0, x1, x2, x3, x4, x5, x6, x7, x8, x9, x10, xf0, xf1, xf2, xf3, xf4, xf5, xf6, xf7, xf8, xf9, xf10⟩ := hx5.cells
    obtain ⟨y0, y1, y2, y3, y4, y5, y6, y7, y8, y9, y10, yf0, yf1, yf2, yf3, yf4, yf5, yf6, yf7, yf8, yf9, yf10⟩ := hy5.cells
    have f5 := finN (j := 3) [.int .i64 x] hgw1 (by omega) hr5 ho5
    have hkp := hide (fun k (h1 : k < w1.heap.size) (h2 : k ≠ w.heap.size) (h3 : g ≠ k) => (keep2 w5 w1.heap.size w.heap.size 3 (.int .i64 x) [.int .i64 m.1, .int .i64 m.2.1, .int .i64 m.2.2.1, .int .i64 x, .int .i64 m.2.2.2.2.1.1, .int .i64 m.2.2.2.2.1.2.1, .int .i64 m.2.2.2.2.1.2.2.1, .int .i64 m.2.2.2.2.1.2.2.2.1, .int .i64 m.2.2.2.2.1.2.2.2.2, .slice A n c, .slice B p d] k (by omega) h2).trans (hk5b.out k h1 h3))
    go_wp2
    refine bodyPost_ret (v := .agg #[.int .i64 m.1, .int .i64 m.2.1, .int .i64 m.2.2.1, .int .i64 x, .int .i64 m.2.2.2.2.1.1, .int .i64 m.2.2.2.2.1.2.1, .int .i64 m.2.2.2.2.1.2.2.1, .int .i64 m.2.2.2.2.1.2.2.2.1, .int .i64 m.2.2.2.2.1.2.2.2.2, .slice A n c, .slice B p d]) (by simp [results, Try.results10, go_sem, x0, x1, x2, x3, x4, x5, x6, x7, x8, x9, x10, xf0, xf1, xf2, xf3, xf4, xf5, xf6, xf7, xf8, xf9, xf10, y0, y1, y2, y3, y4, y5, y6, y7, y8, y9, y10, yf0, yf1, yf2, yf3, yf4, yf5, yf6, yf7, yf8, yf9, yf10]) rfl (AnyPost.mk ⟨(m.1, m.2.1, m.2.2.1, x, m.2.2.2.2.1, m.2.2.2.2.2.1, m.2.2.2.2.2.2), A, n, c, B, p, d, rfl, ?_, (finN (j := 0) [.int .i64 m.1, .int .i64 m.2.1, .int .i64 m.2.2.1, .int .i64 x, .int .i64 m.2.2.2.2.1.1, .int .i64 m.2.2.2.2.1.2.1, .int .i64 m.2.2.2.2.1.2.2.1, .int .i64 m.2.2.2.2.1.2.2.2.1, .int .i64 m.2.2.2.2.1.2.2.2.2, .slice A n c, .slice B p d] hg (Nat.le_refl _) f5.1 f5.2).1.mono (by omega), (finN (j := 0) [.int .i64 m.1, .int .i64 m.2.1, .int .i64 m.2.2.1, .int .i64 x, .int .i64 m.2.2.2.2.1.1, .int .i64 m.2.2.2.2.1.2.1, .int .i64 m.2.2.2.2.1.2.2.1, .int .i64 m.2.2.2.2.1.2.2.2.1, .int .i64 m.2.2.2.2.1.2.2.2.2, .slice A n c, .slice B p d] hg (Nat.le_refl _) f5.1 f5.2).2⟩)
    exact ReadM.of (m := m) (((hcl'.out.keep (flat_kept _) (fun b h1 h2 => hkp.out b h2 (by omega) (by omega))).mono (flat_kept _) (by omega) (Nat.le_trans (by omega : w1.heap.size ≤ w5.heap.size) (Nat.le_of_eq (size2 w5 w1.heap.size w.heap.size 3 (.int .i64 x) [.int .i64 m.1, .int .i64 m.2.1, .int .i64 m.2.2.1, .int .i64 x, .int .i64 m.2.2.2.2.1.1, .int .i64 m.2.2.2.2.1.2.1, .int .i64 m.2.2.2.2.1.2.2.1, .int .i64 m.2.2.2.2.1.2.2.2.1, .int .i64 m.2.2.2.2.1.2.2.2.2, .slice A n c, .slice B p d]).symm)))) (((hvo'.out.keep vote_kept (fun b h1 h2 => hkp.out b h2 (by omega) (by omega))).mono vote_kept (by omega) (Nat.le_trans (by omega : w1.heap.size ≤ w5.heap.size) (Nat.le_of_eq (size2 w5 w1.heap.size w.heap.size 3 (.int .i64 x) [.int .i64 m.1, .int .i64 m.2.1, .int .i64 m.2.2.1, .int .i64 x, .int .i64 m.2.2.2.2.1.1, .int .i64 m.2.2.2.2.1.2.1, .int .i64 m.2.2.2.2.1.2.2.1, .int .i64 m.2.2.2.2.1.2.2.2.1, .int .i64 m.2.2.2.2.1.2.2.2.2, .slice A n c, .slice B p d]).symm)))) hn3 hp4 hsm'.out rfl rfl ⟨by have := hview'.out; dsimp only; omega, by have := hview'.out; dsimp only; omega⟩
  · have d0 : ((k3 : Int) == 0) = false := by rw [h0]; decide
    have d1 : ((k3 : Int) == 1) = false := by rw [h0]; decide
    have d2 : ((k3 : Int) == 2) = false := by rw [h0]; decide
    have d3 : ((k3 : Int) == 3) = false := by rw [h0]; decide
    have d4 : ((k3 : Int) == 4) = true := by rw [h0]; decide
    clear h0
    have hdr3 : Drawn w3 (w.heap.size + 1) m (.slice A n c) (.slice B p d) := hdr'.out.keep (by omega) (fun b h1 h2 => hk3b.out b h2 (by omega))
    have hlen3 : Hid (m.2.2.2.2.2.1.length ≤ 3) := hide (by have := hcl'.out.len; omega)
    have hvab : Hid (∀ k, (Value.slice A n c).ownBlock = some k → ¬ k = w1.heap.size) := hide (fun k hk e => by have := (hdr'.out.own.lt k hk).2; omega)
    have hD3 := (Below.refl w3.heap.size w3).drew
    go_wp2
    refine wp_region_O (fun _ => True) [28] [35] [] (Ord.seg [0, 2] (Ord.both 1 3 (Ord.seg [3, 4, 5, 6, 7] Ord.done) (Ord.seg [] (Ord.both 1 4 (Ord.seg [4, 5, 6, 7] Ord.done) (Ord.seg [1, 5, 6, 7] Ord.done))))) (by kernel_rfl) (by kernel_rfl) (by kernel_rfl) trivial ?_
    go_wp2_with (first
      | (go_at_call 13; refine (l20Claim_c g _ w3.drew hr3 (by omega)).mono ?_; rintro e w5 ⟨c5, rfl, hr5, h5'⟩; have h5 : Only w3.heap.size (some g) w3 w5 := Only.trans (Only.drew (Only.refl _ _ w3)) h5'; have hx5 := hx3.only h5 hgb; have hy5 := hy3.only h5 hgy; have ho5 := ho3.trans (h5.mono (by omega)); have hdr5 : Drawn w5 (w.heap.size + 1) m (.slice A n c) (.slice B p d) := hdr3.keep h5.size (fun b h1 h2 => h5.block b h2 (fun e => by injection e; omega)); have hown5 := hdr5.own; have hsl5 := (sl_arr encClaim_len w5 #[.int .i64 c5.1, .int .i64 c5.2.1, .int .i64 c5.2.2.1, .int .i64 c5.2.2.2.1, .int .i64 c5.2.2.2.2.1, .int .i64 c5.2.2.2.2.2.1, .int .i64 c5.2.2.2.2.2.2] 40 [c5] rfl).mono (lo' := 0) (Nat.zero_le _) (Nat.le_refl _); have hl5 := hy5.lt; have hlx5 := hx5.lt; obtain ⟨x0, x1, x2, x3, x4, x5, x6, x7, x8, x9, x10, xf0, xf1, xf2, xf3, xf4, xf5, xf6, xf7, xf8, xf9, xf10⟩ := hx5.cells; obtain ⟨y0, y1, y2, y3, y4, y5, y6, y7, y8, y9, y10, yf0, yf1, yf2, yf3, yf4, yf5, yf6, yf7, yf8, yf9, yf10⟩ := hy5.cells)
      | ((with_reducible refine wpT_x0 ?_ ?_ ?_); (focus rfl); (focus rfl); intro K hK; refine wp_app encClaim_len (by omega) encClaim_one _ _ 25 rfl 40 _ 56 Try.underlying25 infoClaimD rfl (w.heap.size + 1) _ m.2.2.2.2.2.1 rfl (hown5.alloc _) 0 _ _ [c5] _ _ rfl rfl hsl5 (by have := hlen3.out; simp [maxLen]; omega) (by simp; omega) ?_; intro v7 w7 ho7 hg7 hb7; obtain ⟨A7, c7, rfl, _, hc7, _⟩ := ho7.form; have hbx7 : w7.heap[w1.heap.size]? = w5.heap[w1.heap.size]? := (hg7.block _ (by simp; omega) (fun e => hvab.out _ e.symm rfl)).trans ((Below.refl w5.heap.size w5).alloc (Nat.le_refl _) _ |>.block _ hl5); have hy7 : LBox w7 w1.heap.size m (.slice A n c) (.slice B p d) := hbx7.trans hy5; have hx7 := (hx5.below ((Below.refl w5.heap.size w5).alloc (Nat.le_refl _) _) hx5.lt).below hb7 (by omega); have hB7 : Below (w.heap.size + 1) w5 w7 := ((Below.refl w5.heap.size w5).alloc (Nat.le_refl _) _ |>.mono (by omega)).trans hb7; have hvo7 := hide (((hdr5.keep (by simp) (fun b _ h2 => (Below.refl w5.heap.size w5).alloc (Nat.le_refl _) _ |>.block b h2))).app hg7); have hr7 := hr5.below hB7 (by omega); have ho57 := ho5.trans (Only.of_below (hB7.mono (Nat.le_succ _))); obtain ⟨x0, x1, x2, x3, x4, x5, x6, x7, x8, x9, x10, xf0, xf1, xf2, xf3, xf4, xf5, xf6, xf7, xf8, xf9, xf10⟩ := hx7.cells; obtain ⟨y0, y1, y2, y3, y4, y5, y6, y7, y8, y9, y10, yf0, yf1, yf2, yf3, yf4, yf5, yf6, yf7, yf8, yf9, yf10⟩ := hy7.cells; have hl7 := hy7.lt; have hK := hK)
      | ((with_reducible refine wpO_seg ?_); simp only [pickL, List.toList_toArray, List.getElem?_cons_succ, List.getElem?_cons_zero]) | ((with_reducible refine wpO_both ?_ ?_) <;> simp only [pickL, List.toList_toArray, List.getElem?_cons_succ, List.getElem?_cons_zero]) | ((with_reducible refine wpO_done ?_); try dsimp only) | ((with_reducible refine wpT_q0 ?_ ?_ ?_ ?_); (focus rfl); (focus rfl); (focus rfl); intro K hK) | ((with_reducible refine wpT_x0 ?_ ?_ ?_); (focus rfl); (focus rfl); intro K hK) | ((with_reducible refine wpT_noL ?_ ?_); (focus (first | exact wanted_no _ _ _ rfl rfl rfl | exact wanted_un _ _ _ rfl rfl rfl)); simp only [setO, List.set_cons_succ, List.set_cons_zero]) | ((with_reducible refine wpT_q1 ?_ ?_ ?_ ?_); (focus exact wanted_yes _ _ _ rfl rfl rfl); (focus rfl); (focus rfl); intro K hK) | ((with_reducible refine wpT_x1 ?_ ?_ ?_); (focus exact wanted_yes _ _ _ rfl rfl rfl); (focus rfl); intro K hK) | ((with_reducible refine wpT_nil ?_); try dsimp only)
      | fail)
    all_goals
      have hch : Hid ((Value.slice A n c).ownBlock = none → ∀ b, w.heap.size + 1 ≤ b → b < w1.heap.size → w7.heap[b]? = w1.heap[b]?) := hide (fun hnone b hb1 hb2 => by
        have e1 := hk3b.out b hb2 (by omega)
        have e2 : w5.heap[b]? = w3.heap[b]? := h5.block b (by omega) (fun e => by injection e; omega)
        have e3 := hg7.block b (by simp; omega) (fun e => by have h9 : (Value.slice A n c).ownBlock = some b := e.symm; rw [hnone] at h9; cases h9)
        have e4 := ((Below.refl w5.heap.size w5).alloc (Nat.le_refl _) (.cells #[.int .i64 c5.1, .int .i64 c5.2.1, .int .i64 c5.2.2.1, .int .i64 c5.2.2.2.1, .int .i64 c5.2.2.2.2.1, .int .i64 c5.2.2.2.2.2.1, .int .i64 c5.2.2.2.2.2.2] 40)).block b (by omega)
        exact ((e3.trans e4).trans e2).trans e1)
      have hAF := hide (anyFin (P := P) (by omega) hg (by omega) hdr'.out hch.out ho7 hy7 hlen3.out hp4 hsm'.out hview'.out hr7 ho57 hgw1 hl7)
      exact bodyPost_ret (v := .agg #[.int .i64 m.1, .int .i64 m.2.1, .int .i64 m.2.2.1, .int .i64 m.2.2.2.1, .int .i64 m.2.2.2.2.1.1, .int .i64 m.2.2.2.2.1.2.1, .int .i64 m.2.2.2.2.1.2.2.1, .int .i64 m.2.2.2.2.1.2.2.2.1, .int .i64 m.2.2.2.2.1.2.2.2.2, .slice A7 (m.2.2.2.2.2.1.length + 1) c7, .slice B p d]) (by simp [results, Try.results10, go_sem, x0, x1, x2, x3, x4, x5, x6, x7, x8, x9, x10, xf0, xf1, xf2, xf3, xf4, xf5, xf6, xf7, xf8, xf9, xf10, y0, y1, y2, y3, y4, y5, y6, y7, y8, y9, y10, yf0, yf1, yf2, yf3, yf4, yf5, yf6, yf7, yf8, yf9, yf10]) rfl hAF.out
  · have d0 : ((k3 : Int) == 0) = false := by simp only [beq_eq_false_iff_ne, ne_eq]; omega
    have d1 : ((k3 : Int) == 1) = false := by simp only [beq_eq_false_iff_ne, ne_eq]; omega
    have d2 : ((k3 : Int) == 2) = false := by simp only [beq_eq_false_iff_ne, ne_eq]; omega
    have d3 : ((k3 : Int) == 3) = false := by simp only [beq_eq_false_iff_ne, ne_eq]; omega
    have d4 : ((k3 : Int) == 4) = false := by simp only [beq_eq_false_iff_ne, ne_eq]; omega
    have hkp := hide (fun k (h1 : k < w1.heap.size) (h2 : k ≠ w.heap.size) (h3 : g ≠ k) => (heap_putCells_other [.int .i64 m.1, .int .i64 m.2.1, .int .i64 m.2.2.1, .int .i64 m.2.2.2.1, .int .i64 m.2.2.2.2.1.1, .int .i64 m.2.2.2.2.1.2.1, .int .i64 m.2.2.2.2.1.2.2.1, .int .i64 m.2.2.2.2.1.2.2.2.1, .int .i64 m.2.2.2.2.1.2.2.2.2, .slice A n c, .slice B p d] w3 w.heap.size 0 k h2).trans (hk3b.out k h1 h3))
    clear h0
    go_wp2
    refine bodyPost_ret (v := .agg #[.int .i64 m.1, .int .i64 m.2.1, .int .i64 m.2.2.1, .int .i64 m.2.2.2.1, .int .i64 m.2.2.2.2.1.1, .int .i64 m.2.2.2.2.1.2.1, .int .i64 m.2.2.2.2.1.2.2.1, .int .i64 m.2.2.2.2.1.2.2.2.1, .int .i64 m.2.2.2.2.1.2.2.2.2, .slice A n c, .slice B p d]) (by simp [results, Try.results10, go_sem, x0, x1, x2, x3, x4, x5, x6, x7, x8, x9, x10, xf0, xf1, xf2, xf3, xf4, xf5, xf6, xf7, xf8, xf9, xf10, y0, y1, y2, y3, y4, y5, y6, y7, y8, y9, y10, yf0, yf1, yf2, yf3, yf4, yf5, yf6, yf7, yf8, yf9, yf10]) rfl (AnyPost.mk ⟨m, A, n, c, B, p, d, rfl, ?_, (finN (j := 0) [.int .i64 m.1, .int .i64 m.2.1, .int .i64 m.2.2.1, .int .i64 m.2.2.2.1, .int .i64 m.2.2.2.2.1.1, .int .i64 m.2.2.2.2.1.2.1, .int .i64 m.2.2.2.2.1.2.2.1, .int .i64 m.2.2.2.2.1.2.2.2.1, .int .i64 m.2.2.2.2.1.2.2.2.2, .slice A n c, .slice B p d] hg (Nat.le_refl _) hr3 ho3).1.mono (by omega), (finN (j := 0) [.int .i64 m.1, .int .i64 m.2.1, .int .i64 m.2.2.1, .int .i64 m.2.2.2.1, .int .i64 m.2.2.2.2.1.1, .int .i64 m.2.2.2.2.1.2.1, .int .i64 m.2.2.2.2.1.2.2.1, .int .i64 m.2.2.2.2.1.2.2.2.1, .int .i64 m.2.2.2.2.1.2.2.2.2, .slice A n c, .slice B p d] hg (Nat.le_refl _) hr3 ho3).2⟩)
    exact ReadM.of (m := m) ((hcl'.out.keep (flat_kept _) (fun b h1 h2 => hkp.out b h2 (by omega) (by omega))).mono (flat_kept _) (by omega) (Nat.le_trans (by omega : w1.heap.size ≤ w3.heap.size) (Nat.le_of_eq (size_putCells [.int .i64 m.1, .int .i64 m.2.1, .int .i64 m.2.2.1, .int .i64 m.2.2.2.1, .int .i64 m.2.2.2.2.1.1, .int .i64 m.2.2.2.2.1.2.1, .int .i64 m.2.2.2.2.1.2.2.1, .int .i64 m.2.2.2.2.1.2.2.2.1, .int .i64 m.2.2.2.2.1.2.2.2.2, .slice A n c, .slice B p d] w3 w.heap.size 0).symm))) ((hvo'.out.keep vote_kept (fun b h1 h2 => hkp.out b h2 (by omega) (by omega))).mono vote_kept (by omega) (Nat.le_trans (by omega : w1.heap.size ≤ w3.heap.size) (Nat.le_of_eq (size_putCells [.int .i64 m.1, .int .i64 m.2.1, .int .i64 m.2.2.1, .int .i64 m.2.2.2.1, .int .i64 m.2.2.2.2.1.1, .int .i64 m.2.2.2.2.1.2.1, .int .i64 m.2.2.2.2.1.2.2.1, .int .i64 m.2.2.2.2.1.2.2.2.1, .int .i64 m.2.2.2.2.1.2.2.2.2, .slice A n c, .slice B p d] w3 w.heap.size 0).symm))) hn3 hp4 hsm'.out rfl rfl ⟨by have := hview'.out; omega, by have := hview'.out; omega⟩
end Go.Proofs.Ytkmoefgnejhpoaa
