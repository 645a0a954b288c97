/-
  What 'FCe' rests on (texts of this seat put together: NK NQ NM NE).
  Conditions: none.
-/
import Derived.Test.YtopmbnnjhoinkaaZZ5
import Derived.WalkLawsBesides
import Derived.WalkSpells
namespace Go.Proofs.Ytopmbnnjhoinkaa
open Go.RowKit Rg
set_option linter.unusedVariables false
set_option linter.unusedSimpArgs false
set_option maxHeartbeats 1000000
structure Above (K : Nat) (w w' : World) : Prop where
  keep : ∀ b, K ≤ b → w'.heap[b]? = w.heap[b]?
section
variable {K : Nat} {a w w' : World}
theorem Above.refl (K : Nat) (w : World) : Above K w w := ⟨fun _ _ => rfl⟩
theorem Above.setCell (h : Above K a w) {p : Addr} (hp : p.block < K) (u : Value) : Above K a (w.setCell p u) := ⟨fun b hb => (Below.heap_setCell w p u b (by omega)).trans (h.keep b hb)⟩
theorem Above.drew (h : Above K a w) : Above K a w.drew := ⟨h.keep⟩
theorem Above.put {g : Nat} (hg : g < K) (us : List Value) : ∀ {w : World} {j : Nat}, Above K a w → Above K a (putCells w g j us) := by
  induction us with
  | nil => intro w j h; exact h
  | cons u us ih => intro w j h; exact ih (h.setCell (p := ⟨g, j, none⟩) hg u)
end
theorem OwnB.below {α : Type} {enc : α → List Value} {sz lo hi n c B : Nat} {A : Option Addr} {e : TypeId} {w w' : World} {xs : List α} (h : OwnB enc sz e w lo hi A n c xs) (hb : Below B w w') (hB : hi ≤ B) : OwnB enc sz e w' lo hi A n c xs :=
  h.keep fun b _ h2 => hb.block b (by omega)
def MBox (w : World) (b lo hi : Nat) (m : MsgT) : Prop := ∃ (A B : Option Addr) (n c p d : Nat), w.heap[b]? = some (.cells #[.int .i64 m.1, .int .i64 m.2.1, .int .i64 m.2.2.1, .int .i64 m.2.2.2.1, .int .i64 m.2.2.2.2.1.1, .int .i64 m.2.2.2.2.1.2.1, .int .i64 m.2.2.2.2.1.2.2.1, .int .i64 m.2.2.2.2.1.2.2.2.1, .int .i64 m.2.2.2.2.1.2.2.2.2, .slice A n c, .slice B p d] 34 (0, 0)) ∧ RdN 7 clR w lo hi A n c m.2.2.2.2.2.1 ∧ RdN 2 voteR w lo hi B p d m.2.2.2.2.2.2
theorem MBox.lt {w : World} {b lo hi : Nat} {m : MsgT} (h : MBox w b lo hi m) : b < w.heap.size := by
  obtain ⟨A, B, n, c, p, d, h, _⟩ := h
  exact lt_of_heap h
theorem MBox.below {w w' : World} {b lo hi K : Nat} {m : MsgT} (h : MBox w b lo hi m) (hb : Below K w w') (hK : b < K) (hhi : hi ≤ K) : MBox w' b lo hi m := by
  obtain ⟨A, B, n, c, p, d, h, h1, h2⟩ := h
  exact ⟨A, B, n, c, p, d, (hb.block b hK).trans h, h1.below (flat_kept _) hb hhi, h2.below vote_kept hb hhi⟩
theorem MBox.cells {w : World} {b lo hi : Nat} {m : MsgT} (h : MBox w b lo hi m) : ∃ (A B : Option Addr) (n c p d : Nat), w.cell? ⟨b, 0, none⟩ = some (.int .i64 m.1) ∧ w.cell? ⟨b, 1, none⟩ = some (.int .i64 m.2.1) ∧ w.cell? ⟨b, 2, none⟩ = some (.int .i64 m.2.2.1) ∧ w.cell? ⟨b, 3, none⟩ = some (.int .i64 m.2.2.2.1) ∧ w.cell? ⟨b, 4, none⟩ = some (.int .i64 m.2.2.2.2.1.1) ∧ w.cell? ⟨b, 5, none⟩ = some (.int .i64 m.2.2.2.2.1.2.1) ∧ w.cell? ⟨b, 6, none⟩ = some (.int .i64 m.2.2.2.2.1.2.2.1) ∧ w.cell? ⟨b, 7, none⟩ = some (.int .i64 m.2.2.2.2.1.2.2.2.1) ∧ w.cell? ⟨b, 8, none⟩ = some (.int .i64 m.2.2.2.2.1.2.2.2.2) ∧ w.cell? ⟨b, 9, none⟩ = some (.slice A n c) ∧ w.cell? ⟨b, 10, none⟩ = some (.slice B p d) ∧ RdN 7 clR w lo hi A n c m.2.2.2.2.2.1 ∧ RdN 2 voteR w lo hi B p d m.2.2.2.2.2.2 := by
  obtain ⟨A, B, n, c, p, d, h, h1, h2⟩ := h
  exact ⟨A, B, n, c, p, d, by simp [World.cell?, h], by simp [World.cell?, h], by simp [World.cell?, h], by simp [World.cell?, h], by simp [World.cell?, h], by simp [World.cell?, h], by simp [World.cell?, h], by simp [World.cell?, h], by simp [World.cell?, h], by simp [World.cell?, h], by simp [World.cell?, h], h1, h2⟩
theorem MBox.made {w : World} {lo hi : Nat} {m : MsgT} {A B : Option Addr} {n c p d : Nat} (h1 : RdN 7 clR w lo hi A n c m.2.2.2.2.2.1) (h2 : RdN 2 voteR w lo hi B p d m.2.2.2.2.2.2) (hhi : hi ≤ w.heap.size) : MBox (w.alloc (.cells #[.int .i64 m.1, .int .i64 m.2.1, .int .i64 m.2.2.1, .int .i64 m.2.2.2.1, .int .i64 m.2.2.2.2.1.1, .int .i64 m.2.2.2.2.1.2.1, .int .i64 m.2.2.2.2.1.2.2.1, .int .i64 m.2.2.2.2.1.2.2.2.1, .int .i64 m.2.2.2.2.1.2.2.2.2, .slice A n c, .slice B p d] 34)) w.heap.size lo hi m :=
  ⟨A, B, n, c, p, d, heap_alloc_new w _, h1.below (flat_kept _) ((Below.refl _ _).alloc (Nat.le_refl _) _) hhi, h2.below vote_kept ((Below.refl _ _).alloc (Nat.le_refl _) _) hhi⟩
theorem l3Has_c (ts : List MsgT) (m : MsgT) (A0 : Option Addr) (n0 c0 lo hi lo' hi' : Nat) (A B : Option Addr) (n c p d : Nat) (w : World) (hs : RdN 11 msgR w lo hi A0 n0 c0 ts) (h1 : RdN 7 clR w lo' hi' A n c m.2.2.2.2.2.1) (h2 : RdN 2 voteR w lo' hi' B p d m.2.2.2.2.2.2) (hhi : hi ≤ w.heap.size) (hhi' : hi' ≤ w.heap.size) :
    Calls Try.prog 77 #[.slice A0 n0 c0, .agg #[.int .i64 m.1, .int .i64 m.2.1, .int .i64 m.2.2.1, .int .i64 m.2.2.2.1, .int .i64 m.2.2.2.2.1.1, .int .i64 m.2.2.2.2.1.2.1, .int .i64 m.2.2.2.2.1.2.2.1, .int .i64 m.2.2.2.2.1.2.2.2.1, .int .i64 m.2.2.2.2.1.2.2.2.2, .slice A n c, .slice B p d]] w fun e w' => e = .returned (.bool (decide (m ∈ ts))) ∧ Below w.heap.size w w' := by
  have hA := (Below.refl w.heap.size w).alloc (Nat.le_refl _) (.cells #[.int .i64 m.1, .int .i64 m.2.1, .int .i64 m.2.2.1, .int .i64 m.2.2.2.1, .int .i64 m.2.2.2.2.1.1, .int .i64 m.2.2.2.2.1.2.1, .int .i64 m.2.2.2.2.1.2.2.1, .int .i64 m.2.2.2.2.1.2.2.2.1, .int .i64 m.2.2.2.2.1.2.2.2.2, .slice A n c, .slice B p d] 34)
  have hm := MBox.made h1 h2 hhi'
  have hs1 := hs.below msg_kept hA hhi
  have hz := hA.size
  have hlt := hm.lt
  have hn' := hide hs.len
  have hc1 := hs.cap
  have hc2 := hs.max
  unfold maxLen at hc2
  go_enter Try.func77, Try.ntmps77
  go_wp2_with fail
  generalize w.alloc (.cells #[.int .i64 m.1, .int .i64 m.2.1, .int .i64 m.2.2.1, .int .i64 m.2.2.2.1, .int .i64 m.2.2.2.2.1.1, .int .i64 m.2.2.2.2.1.2.1, .int .i64 m.2.2.2.2.1.2.2.1, .int .i64 m.2.2.2.2.1.2.2.2.1, .int .i64 m.2.2.2.2.1.2.2.2.2, .slice A n c, .slice B p d] 34) = w0 at *
  go_loopw [5] (fun i wr => ∃ k : Nat, k ≤ n0 ∧ i = .int .i64 k ∧ Hid (∀ j (h : j < ts.length), j < k → ¬ ts[j] = m) ∧ Below w0.heap.size w0 wr) (fun i _ => n0 - (intOf i).toNat)
  case atStart => exact ⟨0, Nat.zero_le _, rfl, fun j h h' => absurd h' (by omega), Below.refl _ _⟩
  case round =>
    obtain ⟨k, hk, rfl, hno, hbr⟩ := hrel
    have hBr := hA.trans (hbr.mono hz)
    have hzr := hbr.size
    by_cases hlt2 : k < n0
    · have hlx : k < ts.length := by have := hn'.out; omega
      obtain ⟨b', off, rfl, hlo, hbh⟩ := hs.addr hlx
      obtain ⟨A1, n1, c1, B1, p1, d1, a0, a1, a2, a3, a4, a5, a6, a7, a8, a9, a10, r0, r1⟩ := (hs1.below msg_kept hbr (Nat.le_trans hhi hz)).msg hlx
      obtain ⟨A2, B2, n2, c2, p2, d2, x0, x1, x2, x3, x4, x5, x6, x7, x8, x9, x10, q1, q2⟩ := (hm.below hbr hlt (Nat.le_trans hhi' hz)).cells
      have hsm := hide (fun W (h : Below wr.heap.size wr W) => l3Same_c ts[k] m A1 B1 A2 B2 n1 c1 p1 d1 n2 c2 p2 d2 lo hi lo' hi' W (r0.below (flat_kept _) h (by omega)) (r1.below vote_kept h (by omega)) (q1.below (flat_kept _) h (by omega)) (q2.below vote_kept h (by omega)) (by have := h.size; omega) (by have := h.size; omega))
      cases e : decide (ts[k] = m)
      · have e' := hide (of_decide_eq_false e)
        go_wp2
        refine wp_region_T (fun _ => True) [] [] [] [0, 1, 2, 3, 4, 5] (by kernel_rfl) (by kernel_rfl) (by kernel_rfl) trivial ?_; simp only [pickL, List.getElem?_cons_succ, List.getElem?_cons_zero]
        go_wp2_with (first
          | ((refine no_implicit_lambda% (g24_ ?_)); intro K hK) | (refine no_implicit_lambda% (g1_ ?_)) | ((refine no_implicit_lambda% (g2_ ?_)); intro K hK) | (refine no_implicit_lambda% (g3_ ?_))
          | (go_at_call 87; refine (hsm.out _ (below_drewN wr 1)).mono ?_; rintro e w1 ⟨rfl, hb1⟩; rw [e])
          | fail)
        go_roundw
        case rel => exact ⟨k + 1, by omega, by go_num, fun j hj hjk h => by
          by_cases h2 : j < k
          · exact hno.out j hj h2 h
          · obtain rfl : j = k := by omega
            exact e'.out h, hbr.drew.trans (hb1.mono hzr)⟩
        case measure => simp [intOf]; omega
      · have e' : Hid (m ∈ ts) := hide (of_decide_eq_true e ▸ List.getElem_mem hlx)
        go_wp2
        refine wp_region_T (fun _ => True) [] [] [] [0, 1, 2, 3, 4, 5] (by kernel_rfl) (by kernel_rfl) (by kernel_rfl) trivial ?_; simp only [pickL, List.getElem?_cons_succ, List.getElem?_cons_zero]
        go_wp2_with (first
          | ((refine no_implicit_lambda% (g24_ ?_)); intro K hK) | (refine no_implicit_lambda% (g1_ ?_)) | ((refine no_implicit_lambda% (g2_ ?_)); intro K hK) | (refine no_implicit_lambda% (g3_ ?_))
          | (go_at_call 87; refine (hsm.out _ (below_drewN wr 1)).mono ?_; rintro e w1 ⟨rfl, hb1⟩; rw [e])
          | fail)
        go_ret
        exact ⟨by simp [e'.out], hBr.drew.trans (hb1.mono hBr.size)⟩
    · obtain rfl : k = n0 := by omega
      go_wp2
      go_ret
      have : ¬ m ∈ ts := fun h => by
        obtain ⟨j, hj, he⟩ := List.mem_iff_getElem.1 h
        exact hno.out j hj (by have := hn'.out; omega) he
      exact ⟨by simp [this], hBr⟩
end Go.Proofs.Ytopmbnnjhoinkaa
