/-
  'copyOf', 'l11Copy': a player's copy.
-/
import Derived.Test.YtchofialljhojaaGD
import Derived.Test.YtchofialljhojaaGF
import Derived.Test.YtchofialljhojaaRegK
namespace Go.Proofs.Ytchofialljhojaa
open Go.RowKit Rg
set_option linter.unusedVariables false
set_option linter.unusedSimpArgs false

theorem keepB {w w' : World} {B : Nat} (hb : Below B w w') {p : Addr} {v : Value} (hl : p.block < B) (h : w.cell? p = some v) : w'.cell? p = some v := (World.cell?_of_block (hb.block p.block hl)).trans h
theorem keepfB {w w' : World} {B : Nat} (hb : Below B w w') {b j : Nat} (hl : b < B) (h : w.frozen? ⟨b, j, none⟩ = false) : w'.frozen? ⟨b, j, none⟩ = false := by
  have e := hb.block b hl
  simp only [World.frozen?, e] at h ⊢
  exact h
/-- A box of a player is written: what stands elsewhere stays. -/
theorem set6_keep {w : World} {b k : Nat} (a0 a1 a2 a3 a4 a5 : Value) (h : k ≠ b) : ((((((w.setCell ⟨b, 0, none⟩ (a0)).setCell ⟨b, 1, none⟩ (a1)).setCell ⟨b, 2, none⟩ (a2)).setCell ⟨b, 3, none⟩ (a3)).setCell ⟨b, 4, none⟩ (a4)).setCell ⟨b, 5, none⟩ (a5)).heap[k]? = w.heap[k]? :=
  (Below.heap_setCell _ ⟨b, 5, none⟩ _ k h).trans ((Below.heap_setCell _ ⟨b, 4, none⟩ _ k h).trans ((Below.heap_setCell _ ⟨b, 3, none⟩ _ k h).trans ((Below.heap_setCell _ ⟨b, 2, none⟩ _ k h).trans ((Below.heap_setCell _ ⟨b, 1, none⟩ _ k h).trans (Below.heap_setCell _ ⟨b, 0, none⟩ _ k h)))))
theorem set6_below {a w : World} {B b : Nat} (a0 a1 a2 a3 a4 a5 : Value) (h : B ≤ b) (hb : Below B a w) : Below B a ((((((w.setCell ⟨b, 0, none⟩ (a0)).setCell ⟨b, 1, none⟩ (a1)).setCell ⟨b, 2, none⟩ (a2)).setCell ⟨b, 3, none⟩ (a3)).setCell ⟨b, 4, none⟩ (a4)).setCell ⟨b, 5, none⟩ (a5)) :=
  (((((hb.setCell (by simpa using h) _).setCell (by simpa using h) _).setCell (by simpa using h) _).setCell (by simpa using h) _).setCell (by simpa using h) _).setCell (by simpa using h) _
set_option maxRecDepth 100000 in
set_option maxHeartbeats 2000000 in
theorem copyOf_c (r : ReqV) (A : Option Addr) (n c lo hi : Nat) (xs : List ReplyT) (w : World) (hn : n = xs.length) (hb : n ≤ 1048576) (hs : Sl encReply 4 w lo hi A xs) (hhi : hi ≤ w.heap.size) :
    Calls Try.prog 61 #[.agg #[.int .i64 r.1, .int .i64 r.2.1, .int .i64 r.2.2.1, .int .i64 r.2.2.2.1, .int .i64 r.2.2.2.2, .slice A n c]] w fun e w' => ∃ A' c', e = .returned (.agg #[.int .i64 r.1, .int .i64 r.2.1, .int .i64 r.2.2.1, .int .i64 r.2.2.2.1, .int .i64 r.2.2.2.2, .slice A' xs.length c']) ∧ Own encReply 4 37 w' w.heap.size (.slice A' xs.length c') xs ∧ Below w.heap.size w w' := by
  have hn' := hide hn
  clear hn
  have hb0 : Below w.heap.size w ((w.alloc (.cells #[.int .i64 r.1, .int .i64 r.2.1, .int .i64 r.2.2.1, .int .i64 r.2.2.2.1, .int .i64 r.2.2.2.2, .slice A n c] 32)).alloc (.cells #[.int .i64 0, .int .i64 0, .int .i64 0, .int .i64 0, .int .i64 0, .slice none 0 0] 32)) := ((Below.refl _ _).alloc (Nat.le_refl _) _).alloc (by simp) _
  obtain ⟨g1, g2, g4⟩ := heap2 w (.cells #[.int .i64 r.1, .int .i64 r.2.1, .int .i64 r.2.2.1, .int .i64 r.2.2.2.1, .int .i64 r.2.2.2.2, .slice A n c] 32) (.cells #[.int .i64 0, .int .i64 0, .int .i64 0, .int .i64 0, .int .i64 0, .slice none 0 0] 32)
  have x0 : ((w.alloc (.cells #[.int .i64 r.1, .int .i64 r.2.1, .int .i64 r.2.2.1, .int .i64 r.2.2.2.1, .int .i64 r.2.2.2.2, .slice A n c] 32)).alloc (.cells #[.int .i64 0, .int .i64 0, .int .i64 0, .int .i64 0, .int .i64 0, .slice none 0 0] 32)).cell? ⟨w.heap.size, 0, none⟩ = some (.int .i64 r.1) := by simp only [World.cell?, g1]; rfl
  have x1 : ((w.alloc (.cells #[.int .i64 r.1, .int .i64 r.2.1, .int .i64 r.2.2.1, .int .i64 r.2.2.2.1, .int .i64 r.2.2.2.2, .slice A n c] 32)).alloc (.cells #[.int .i64 0, .int .i64 0, .int .i64 0, .int .i64 0, .int .i64 0, .slice none 0 0] 32)).cell? ⟨w.heap.size, 1, none⟩ = some (.int .i64 r.2.1) := by simp only [World.cell?, g1]; rfl
  have x2 : ((w.alloc (.cells #[.int .i64 r.1, .int .i64 r.2.1, .int .i64 r.2.2.1, .int .i64 r.2.2.2.1, .int .i64 r.2.2.2.2, .slice A n c] 32)).alloc (.cells #[.int .i64 0, .int .i64 0, .int .i64 0, .int .i64 0, .int .i64 0, .slice none 0 0] 32)).cell? ⟨w.heap.size, 2, none⟩ = some (.int .i64 r.2.2.1) := by simp only [World.cell?, g1]; rfl
  have x3 : ((w.alloc (.cells #[.int .i64 r.1, .int .i64 r.2.1, .int .i64 r.2.2.1, .int .i64 r.2.2.2.1, .int .i64 r.2.2.2.2, .slice A n c] 32)).alloc (.cells #[.int .i64 0, .int .i64 0, .int .i64 0, .int .i64 0, .int .i64 0, .slice none 0 0] 32)).cell? ⟨w.heap.size, 3, none⟩ = some (.int .i64 r.2.2.2.1) := by simp only [World.cell?, g1]; rfl
  have x4 : ((w.alloc (.cells #[.int .i64 r.1, .int .i64 r.2.1, .int .i64 r.2.2.1, .int .i64 r.2.2.2.1, .int .i64 r.2.2.2.2, .slice A n c] 32)).alloc (.cells #[.int .i64 0, .int .i64 0, .int .i64 0, .int .i64 0, .int .i64 0, .slice none 0 0] 32)).cell? ⟨w.heap.size, 4, none⟩ = some (.int .i64 r.2.2.2.2) := by simp only [World.cell?, g1]; rfl
  have x5 : ((w.alloc (.cells #[.int .i64 r.1, .int .i64 r.2.1, .int .i64 r.2.2.1, .int .i64 r.2.2.2.1, .int .i64 r.2.2.2.2, .slice A n c] 32)).alloc (.cells #[.int .i64 0, .int .i64 0, .int .i64 0, .int .i64 0, .int .i64 0, .slice none 0 0] 32)).cell? ⟨w.heap.size, 5, none⟩ = some (.slice A n c) := by simp only [World.cell?, g1]; rfl
  have qz0 : ((w.alloc (.cells #[.int .i64 r.1, .int .i64 r.2.1, .int .i64 r.2.2.1, .int .i64 r.2.2.2.1, .int .i64 r.2.2.2.2, .slice A n c] 32)).alloc (.cells #[.int .i64 0, .int .i64 0, .int .i64 0, .int .i64 0, .int .i64 0, .slice none 0 0] 32)).cell? ⟨w.heap.size + 1, 0, none⟩ = some (.int .i64 0) := by simp only [World.cell?, g2]; rfl
  have qz1 : ((w.alloc (.cells #[.int .i64 r.1, .int .i64 r.2.1, .int .i64 r.2.2.1, .int .i64 r.2.2.2.1, .int .i64 r.2.2.2.2, .slice A n c] 32)).alloc (.cells #[.int .i64 0, .int .i64 0, .int .i64 0, .int .i64 0, .int .i64 0, .slice none 0 0] 32)).cell? ⟨w.heap.size + 1, 1, none⟩ = some (.int .i64 0) := by simp only [World.cell?, g2]; rfl
  have qz2 : ((w.alloc (.cells #[.int .i64 r.1, .int .i64 r.2.1, .int .i64 r.2.2.1, .int .i64 r.2.2.2.1, .int .i64 r.2.2.2.2, .slice A n c] 32)).alloc (.cells #[.int .i64 0, .int .i64 0, .int .i64 0, .int .i64 0, .int .i64 0, .slice none 0 0] 32)).cell? ⟨w.heap.size + 1, 2, none⟩ = some (.int .i64 0) := by simp only [World.cell?, g2]; rfl
  have qz3 : ((w.alloc (.cells #[.int .i64 r.1, .int .i64 r.2.1, .int .i64 r.2.2.1, .int .i64 r.2.2.2.1, .int .i64 r.2.2.2.2, .slice A n c] 32)).alloc (.cells #[.int .i64 0, .int .i64 0, .int .i64 0, .int .i64 0, .int .i64 0, .slice none 0 0] 32)).cell? ⟨w.heap.size + 1, 3, none⟩ = some (.int .i64 0) := by simp only [World.cell?, g2]; rfl
  have qz4 : ((w.alloc (.cells #[.int .i64 r.1, .int .i64 r.2.1, .int .i64 r.2.2.1, .int .i64 r.2.2.2.1, .int .i64 r.2.2.2.2, .slice A n c] 32)).alloc (.cells #[.int .i64 0, .int .i64 0, .int .i64 0, .int .i64 0, .int .i64 0, .slice none 0 0] 32)).cell? ⟨w.heap.size + 1, 4, none⟩ = some (.int .i64 0) := by simp only [World.cell?, g2]; rfl
  have qz5 : ((w.alloc (.cells #[.int .i64 r.1, .int .i64 r.2.1, .int .i64 r.2.2.1, .int .i64 r.2.2.2.1, .int .i64 r.2.2.2.2, .slice A n c] 32)).alloc (.cells #[.int .i64 0, .int .i64 0, .int .i64 0, .int .i64 0, .int .i64 0, .slice none 0 0] 32)).cell? ⟨w.heap.size + 1, 5, none⟩ = some (.slice none 0 0) := by simp only [World.cell?, g2]; rfl
  have fz0 : ((w.alloc (.cells #[.int .i64 r.1, .int .i64 r.2.1, .int .i64 r.2.2.1, .int .i64 r.2.2.2.1, .int .i64 r.2.2.2.2, .slice A n c] 32)).alloc (.cells #[.int .i64 0, .int .i64 0, .int .i64 0, .int .i64 0, .int .i64 0, .slice none 0 0] 32)).frozen? ⟨w.heap.size + 1, 0, none⟩ = false := by simp only [World.frozen?, g2]; simp
  have fz1 : ((w.alloc (.cells #[.int .i64 r.1, .int .i64 r.2.1, .int .i64 r.2.2.1, .int .i64 r.2.2.2.1, .int .i64 r.2.2.2.2, .slice A n c] 32)).alloc (.cells #[.int .i64 0, .int .i64 0, .int .i64 0, .int .i64 0, .int .i64 0, .slice none 0 0] 32)).frozen? ⟨w.heap.size + 1, 1, none⟩ = false := by simp only [World.frozen?, g2]; simp
  have fz2 : ((w.alloc (.cells #[.int .i64 r.1, .int .i64 r.2.1, .int .i64 r.2.2.1, .int .i64 r.2.2.2.1, .int .i64 r.2.2.2.2, .slice A n c] 32)).alloc (.cells #[.int .i64 0, .int .i64 0, .int .i64 0, .int .i64 0, .int .i64 0, .slice none 0 0] 32)).frozen? ⟨w.heap.size + 1, 2, none⟩ = false := by simp only [World.frozen?, g2]; simp
  have fz3 : ((w.alloc (.cells #[.int .i64 r.1, .int .i64 r.2.1, .int .i64 r.2.2.1, .int .i64 r.2.2.2.1, .int .i64 r.2.2.2.2, .slice A n c] 32)).alloc (.cells #[.int .i64 0, .int .i64 0, .int .i64 0, .int .i64 0, .int .i64 0, .slice none 0 0] 32)).frozen? ⟨w.heap.size + 1, 3, none⟩ = false := by simp only [World.frozen?, g2]; simp
  have fz4 : ((w.alloc (.cells #[.int .i64 r.1, .int .i64 r.2.1, .int .i64 r.2.2.1, .int .i64 r.2.2.2.1, .int .i64 r.2.2.2.2, .slice A n c] 32)).alloc (.cells #[.int .i64 0, .int .i64 0, .int .i64 0, .int .i64 0, .int .i64 0, .slice none 0 0] 32)).frozen? ⟨w.heap.size + 1, 4, none⟩ = false := by simp only [World.frozen?, g2]; simp
  have fz5 : ((w.alloc (.cells #[.int .i64 r.1, .int .i64 r.2.1, .int .i64 r.2.2.1, .int .i64 r.2.2.2.1, .int .i64 r.2.2.2.2, .slice A n c] 32)).alloc (.cells #[.int .i64 0, .int .i64 0, .int .i64 0, .int .i64 0, .int .i64 0, .slice none 0 0] 32)).frozen? ⟨w.heap.size + 1, 5, none⟩ = false := by simp only [World.frozen?, g2]; simp
  have hl0 : w.heap.size + 1 < ((w.alloc (.cells #[.int .i64 r.1, .int .i64 r.2.1, .int .i64 r.2.2.1, .int .i64 r.2.2.2.1, .int .i64 r.2.2.2.2, .slice A n c] 32)).alloc (.cells #[.int .i64 0, .int .i64 0, .int .i64 0, .int .i64 0, .int .i64 0, .slice none 0 0] 32)).heap.size := by rw [g4]; omega
  clear g1 g2 g4
  go_enter Try.func61, Try.ntmps61
  go_wp2
  generalize ((w.alloc (.cells #[.int .i64 r.1, .int .i64 r.2.1, .int .i64 r.2.2.1, .int .i64 r.2.2.2.1, .int .i64 r.2.2.2.2, .slice A n c] 32)).alloc (.cells #[.int .i64 0, .int .i64 0, .int .i64 0, .int .i64 0, .int .i64 0, .slice none 0 0] 32)) = w0 at *
  have hl0' : w.heap.size < w0.heap.size := by omega
  have hs0 : Sl encReply 4 w0.drew lo hi A xs := hs.below hb0.drew hhi
  have hh0 : hi ≤ w0.drew.heap.size := Nat.le_trans hhi hb0.size
  have hst : Stays w.heap.size w0.heap[w.heap.size]? w0 := ⟨rfl⟩
  refine wp_region_T (Stays _ _) [32] [] [4] [0, 1, 2, 3, 4, 5, 6] (by kernel_rfl) (by kernel_rfl) (by kernel_rfl) (Stays.drew hst) ?_; simp only [pickL, List.getElem?_cons_succ, List.getElem?_cons_zero]
  go_wp2_with (first
    | ((with_reducible refine Stays.and_ ?_ ?_); (focus (repeat (first | (with_reducible assumption) | ((with_reducible refine Stays.cell ?_ ?_); rotate_left; (focus (first | (with_reducible assumption) | (simp; done) | (simp; omega))))))); intro hS) | ((with_reducible refine wpT_q0 ?_ ?_ ?_ ?_); (focus rfl); (focus rfl); (focus rfl); intro K hK) | ((with_reducible apply wpT_k); (focus rfl); (focus rfl); (focus rfl); (focus rfl); (focus (first | assumption | exact Stays.drew (by assumption))); (focus rfl); (focus go_simp); intro K hK) | ((with_reducible refine wpT_xs0 ?_ ?_ ?_); (focus rfl); (focus rfl); intro K hK) | ((with_reducible refine wpT_noL ?_ ?_); (focus (first | exact wanted_no _ _ _ rfl rfl rfl | exact wanted_un _ _ _ rfl rfl rfl)); simp only [setO, List.set_cons_succ, List.set_cons_zero]) | ((with_reducible refine wpT_q1 ?_ ?_ ?_ ?_); (focus exact wanted_yes _ _ _ rfl rfl rfl); (focus rfl); (focus rfl); intro K hK) | ((with_reducible refine wpT_xs1 ?_ ?_ ?_); (focus exact wanted_yes _ _ _ rfl rfl rfl); (focus rfl); intro K hK) | ((with_reducible refine wpT_nil ?_); try dsimp only)
    | (go_at_call 62; refine (cloneReply_c A n c lo hi xs w0.drew hn'.out hb hs0 hh0).mono ?_; rintro e w3 ⟨A3, rfl, ho3, hb3⟩; have hB3 := hb0.drew.trans (hb3.mono hb0.size); have hst3 : Stays w.heap.size w0.heap[w.heap.size]? w3 := ⟨hb3.block _ hl0'⟩; have hl3 : w.heap.size + 1 < w0.drew.heap.size := hl0; have x0 := keepc (w := w0.drew) hb3 x0; have x1 := keepc (w := w0.drew) hb3 x1; have x2 := keepc (w := w0.drew) hb3 x2; have x3 := keepc (w := w0.drew) hb3 x3; have x4 := keepc (w := w0.drew) hb3 x4; have x5 := keepc (w := w0.drew) hb3 x5; have qz0 := keepc (w := w0.drew) hb3 qz0; have qz1 := keepc (w := w0.drew) hb3 qz1; have qz2 := keepc (w := w0.drew) hb3 qz2; have qz3 := keepc (w := w0.drew) hb3 qz3; have qz4 := keepc (w := w0.drew) hb3 qz4; have qz5 := keepc (w := w0.drew) hb3 qz5; have fz0 := keepf (w := w0.drew) hb3 (hl3) fz0; have fz1 := keepf (w := w0.drew) hb3 (hl3) fz1; have fz2 := keepf (w := w0.drew) hb3 (hl3) fz2; have fz3 := keepf (w := w0.drew) hb3 (hl3) fz3; have fz4 := keepf (w := w0.drew) hb3 (hl3) fz4; have fz5 := keepf (w := w0.drew) hb3 (hl3) fz5))
  refine bodyPost_ret (v := .agg #[.int .i64 r.1, .int .i64 r.2.1, .int .i64 r.2.2.1, .int .i64 r.2.2.2.1, .int .i64 r.2.2.2.2, .slice A3 n n]) (by simp [results, Try.results61, go_sem, qz0, qz1, qz2, qz3, qz4, qz5]) rfl ⟨A3, n, by rw [← hn'.out], ?_, set6_below _ _ _ _ _ _ (by omega) hB3⟩
  rw [← hn'.out]
  exact (ho3.mono hb0.size).keep (fun k hk => set6_keep _ _ _ _ _ _ (by have := (ho3.lt k hk).1; have e9 : w0.drew.heap.size = w0.heap.size := rfl; omega))
set_option maxRecDepth 100000 in
set_option maxHeartbeats 2000000 in
theorem l11Copy_c (r : ReqV) (A : Option Addr) (n c lo hi : Nat) (xs : List ReplyT) (w : World) (hn : n = xs.length) (hb : n ≤ 1048576) (hs : Sl encReply 4 w lo hi A xs) (hhi : hi ≤ w.heap.size) :
    Calls Try.prog 63 #[.agg #[.int .i64 r.1, .int .i64 r.2.1, .int .i64 r.2.2.1, .int .i64 r.2.2.2.1, .int .i64 r.2.2.2.2, .slice A n c]] w fun e w' => ∃ A' c', e = .returned (.agg #[.int .i64 r.1, .int .i64 r.2.1, .int .i64 r.2.2.1, .int .i64 r.2.2.2.1, .int .i64 r.2.2.2.2, .slice A' xs.length c']) ∧ Own encReply 4 37 w' w.heap.size (.slice A' xs.length c') xs ∧ Below w.heap.size w w' := by
  have hn' := hide hn
  clear hn
  have hb0 : Below w.heap.size w ((w.alloc (.cells #[.int .i64 r.1, .int .i64 r.2.1, .int .i64 r.2.2.1, .int .i64 r.2.2.2.1, .int .i64 r.2.2.2.2, .slice A n c] 32)).alloc (.cells #[.int .i64 0, .int .i64 0, .int .i64 0, .int .i64 0, .int .i64 0, .slice none 0 0] 32)) := ((Below.refl _ _).alloc (Nat.le_refl _) _).alloc (by simp) _
  obtain ⟨g1, g2, g4⟩ := heap2 w (.cells #[.int .i64 r.1, .int .i64 r.2.1, .int .i64 r.2.2.1, .int .i64 r.2.2.2.1, .int .i64 r.2.2.2.2, .slice A n c] 32) (.cells #[.int .i64 0, .int .i64 0, .int .i64 0, .int .i64 0, .int .i64 0, .slice none 0 0] 32)
  have x0 : ((w.alloc (.cells #[.int .i64 r.1, .int .i64 r.2.1, .int .i64 r.2.2.1, .int .i64 r.2.2.2.1, .int .i64 r.2.2.2.2, .slice A n c] 32)).alloc (.cells #[.int .i64 0, .int .i64 0, .int .i64 0, .int .i64 0, .int .i64 0, .slice none 0 0] 32)).cell? ⟨w.heap.size, 0, none⟩ = some (.int .i64 r.1) := by simp only [World.cell?, g1]; rfl
  have x1 : ((w.alloc (.cells #[.int .i64 r.1, .int .i64 r.2.1, .int .i64 r.2.2.1, .int .i64 r.2.2.2.1, .int .i64 r.2.2.2.2, .slice A n c] 32)).alloc (.cells #[.int .i64 0, .int .i64 0, .int .i64 0, .int .i64 0, .int .i64 0, .slice none 0 0] 32)).cell? ⟨w.heap.size, 1, none⟩ = some (.int .i64 r.2.1) := by simp only [World.cell?, g1]; rfl
  have x2 : ((w.alloc (.cells #[.int .i64 r.1, .int .i64 r.2.1, .int .i64 r.2.2.1, .int .i64 r.2.2.2.1, .int .i64 r.2.2.2.2, .slice A n c] 32)).alloc (.cells #[.int .i64 0, .int .i64 0, .int .i64 0, .int .i64 0, .int .i64 0, .slice none 0 0] 32)).cell? ⟨w.heap.size, 2, none⟩ = some (.int .i64 r.2.2.1) := by simp only [World.cell?, g1]; rfl
  have x3 : ((w.alloc (.cells #[.int .i64 r.1, .int .i64 r.2.1, .int .i64 r.2.2.1, .int .i64 r.2.2.2.1, .int .i64 r.2.2.2.2, .slice A n c] 32)).alloc (.cells #[.int .i64 0, .int .i64 0, .int .i64 0, .int .i64 0, .int .i64 0, .slice none 0 0] 32)).cell? ⟨w.heap.size, 3, none⟩ = some (.int .i64 r.2.2.2.1) := by simp only [World.cell?, g1]; rfl
  have x4 : ((w.alloc (.cells #[.int .i64 r.1, .int .i64 r.2.1, .int .i64 r.2.2.1, .int .i64 r.2.2.2.1, .int .i64 r.2.2.2.2, .slice A n c] 32)).alloc (.cells #[.int .i64 0, .int .i64 0, .int .i64 0, .int .i64 0, .int .i64 0, .slice none 0 0] 32)).cell? ⟨w.heap.size, 4, none⟩ = some (.int .i64 r.2.2.2.2) := by simp only [World.cell?, g1]; rfl
  have x5 : ((w.alloc (.cells #[.int .i64 r.1, .int .i64 r.2.1, .int .i64 r.2.2.1, .int .i64 r.2.2.2.1, .int .i64 r.2.2.2.2, .slice A n c] 32)).alloc (.cells #[.int .i64 0, .int .i64 0, .int .i64 0, .int .i64 0, .int .i64 0, .slice none 0 0] 32)).cell? ⟨w.heap.size, 5, none⟩ = some (.slice A n c) := by simp only [World.cell?, g1]; rfl
  have qz0 : ((w.alloc (.cells #[.int .i64 r.1, .int .i64 r.2.1, .int .i64 r.2.2.1, .int .i64 r.2.2.2.1, .int .i64 r.2.2.2.2, .slice A n c] 32)).alloc (.cells #[.int .i64 0, .int .i64 0, .int .i64 0, .int .i64 0, .int .i64 0, .slice none 0 0] 32)).cell? ⟨w.heap.size + 1, 0, none⟩ = some (.int .i64 0) := by simp only [World.cell?, g2]; rfl
  have qz1 : ((w.alloc (.cells #[.int .i64 r.1, .int .i64 r.2.1, .int .i64 r.2.2.1, .int .i64 r.2.2.2.1, .int .i64 r.2.2.2.2, .slice A n c] 32)).alloc (.cells #[.int .i64 0, .int .i64 0, .int .i64 0, .int .i64 0, .int .i64 0, .slice none 0 0] 32)).cell? ⟨w.heap.size + 1, 1, none⟩ = some (.int .i64 0) := by simp only [World.cell?, g2]; rfl
  have qz2 : ((w.alloc (.cells #[.int .i64 r.1, .int .i64 r.2.1, .int .i64 r.2.2.1, .int .i64 r.2.2.2.1, .int .i64 r.2.2.2.2, .slice A n c] 32)).alloc (.cells #[.int .i64 0, .int .i64 0, .int .i64 0, .int .i64 0, .int .i64 0, .slice none 0 0] 32)).cell? ⟨w.heap.size + 1, 2, none⟩ = some (.int .i64 0) := by simp only [World.cell?, g2]; rfl
  have qz3 : ((w.alloc (.cells #[.int .i64 r.1, .int .i64 r.2.1, .int .i64 r.2.2.1, .int .i64 r.2.2.2.1, .int .i64 r.2.2.2.2, .slice A n c] 32)).alloc (.cells #[.int .i64 0, .int .i64 0, .int .i64 0, .int .i64 0, .int .i64 0, .slice none 0 0] 32)).cell? ⟨w.heap.size + 1, 3, none⟩ = some (.int .i64 0) := by simp only [World.cell?, g2]; rfl
  have qz4 : ((w.alloc (.cells #[.int .i64 r.1, .int .i64 r.2.1, .int .i64 r.2.2.1, .int .i64 r.2.2.2.1, .int .i64 r.2.2.2.2, .slice A n c] 32)).alloc (.cells #[.int .i64 0, .int .i64 0, .int .i64 0, .int .i64 0, .int .i64 0, .slice none 0 0] 32)).cell? ⟨w.heap.size + 1, 4, none⟩ = some (.int .i64 0) := by simp only [World.cell?, g2]; rfl
  have qz5 : ((w.alloc (.cells #[.int .i64 r.1, .int .i64 r.2.1, .int .i64 r.2.2.1, .int .i64 r.2.2.2.1, .int .i64 r.2.2.2.2, .slice A n c] 32)).alloc (.cells #[.int .i64 0, .int .i64 0, .int .i64 0, .int .i64 0, .int .i64 0, .slice none 0 0] 32)).cell? ⟨w.heap.size + 1, 5, none⟩ = some (.slice none 0 0) := by simp only [World.cell?, g2]; rfl
  have fz0 : ((w.alloc (.cells #[.int .i64 r.1, .int .i64 r.2.1, .int .i64 r.2.2.1, .int .i64 r.2.2.2.1, .int .i64 r.2.2.2.2, .slice A n c] 32)).alloc (.cells #[.int .i64 0, .int .i64 0, .int .i64 0, .int .i64 0, .int .i64 0, .slice none 0 0] 32)).frozen? ⟨w.heap.size + 1, 0, none⟩ = false := by simp only [World.frozen?, g2]; simp
  have fz1 : ((w.alloc (.cells #[.int .i64 r.1, .int .i64 r.2.1, .int .i64 r.2.2.1, .int .i64 r.2.2.2.1, .int .i64 r.2.2.2.2, .slice A n c] 32)).alloc (.cells #[.int .i64 0, .int .i64 0, .int .i64 0, .int .i64 0, .int .i64 0, .slice none 0 0] 32)).frozen? ⟨w.heap.size + 1, 1, none⟩ = false := by simp only [World.frozen?, g2]; simp
  have fz2 : ((w.alloc (.cells #[.int .i64 r.1, .int .i64 r.2.1, .int .i64 r.2.2.1, .int .i64 r.2.2.2.1, .int .i64 r.2.2.2.2, .slice A n c] 32)).alloc (.cells #[.int .i64 0, .int .i64 0, .int .i64 0, .int .i64 0, .int .i64 0, .slice none 0 0] 32)).frozen? ⟨w.heap.size + 1, 2, none⟩ = false := by simp only [World.frozen?, g2]; simp
  have fz3 : ((w.alloc (.cells #[.int .i64 r.1, .int .i64 r.2.1, .int .i64 r.2.2.1, .int .i64 r.2.2.2.1, .int .i64 r.2.2.2.2, .slice A n c] 32)).alloc (.cells #[.int .i64 0, .int .i64 0, .int .i64 0, .int .i64 0, .int .i64 0, .slice none 0 0] 32)).frozen? ⟨w.heap.size + 1, 3, none⟩ = false := by simp only [World.frozen?, g2]; simp
  have fz4 : ((w.alloc (.cells #[.int .i64 r.1, .int .i64 r.2.1, .int .i64 r.2.2.1, .int .i64 r.2.2.2.1, .int .i64 r.2.2.2.2, .slice A n c] 32)).alloc (.cells #[.int .i64 0, .int .i64 0, .int .i64 0, .int .i64 0, .int .i64 0, .slice none 0 0] 32)).frozen? ⟨w.heap.size + 1, 4, none⟩ = false := by simp only [World.frozen?, g2]; simp
  have fz5 : ((w.alloc (.cells #[.int .i64 r.1, .int .i64 r.2.1, .int .i64 r.2.2.1, .int .i64 r.2.2.2.1, .int .i64 r.2.2.2.2, .slice A n c] 32)).alloc (.cells #[.int .i64 0, .int .i64 0, .int .i64 0, .int .i64 0, .int .i64 0, .slice none 0 0] 32)).frozen? ⟨w.heap.size + 1, 5, none⟩ = false := by simp only [World.frozen?, g2]; simp
  have hl0 : w.heap.size + 1 < ((w.alloc (.cells #[.int .i64 r.1, .int .i64 r.2.1, .int .i64 r.2.2.1, .int .i64 r.2.2.2.1, .int .i64 r.2.2.2.2, .slice A n c] 32)).alloc (.cells #[.int .i64 0, .int .i64 0, .int .i64 0, .int .i64 0, .int .i64 0, .slice none 0 0] 32)).heap.size := by rw [g4]; omega
  clear g1 g2 g4
  go_enter Try.func63, Try.ntmps63
  go_wp2
  generalize ((w.alloc (.cells #[.int .i64 r.1, .int .i64 r.2.1, .int .i64 r.2.2.1, .int .i64 r.2.2.2.1, .int .i64 r.2.2.2.2, .slice A n c] 32)).alloc (.cells #[.int .i64 0, .int .i64 0, .int .i64 0, .int .i64 0, .int .i64 0, .slice none 0 0] 32)) = w0 at *
  have hl0' : w.heap.size < w0.heap.size := by omega
  have hA := ((Below.refl w0.heap.size w0).alloc (Nat.le_refl _) (.cells #[] 37)).drew
  have ho : Own encReply 4 37 (w0.alloc (.cells #[] 37)).drew w0.heap.size (.slice (some ⟨w0.heap.size, 0, none⟩) 0 0) [] := own_empty encReply 4 37 w0
  have hB1 := hb0.trans (hA.mono hb0.size)
  have hs0 : Sl encReply 4 (w0.alloc (.cells #[] 37)).drew lo hi A xs := hs.below hB1 hhi
  have x0 := keepc hA x0
  have x1 := keepc hA x1
  have x2 := keepc hA x2
  have x3 := keepc hA x3
  have x4 := keepc hA x4
  have x5 := keepc hA x5
  have qz0 := keepc hA qz0
  have qz1 := keepc hA qz1
  have qz2 := keepc hA qz2
  have qz3 := keepc hA qz3
  have qz4 := keepc hA qz4
  have qz5 := keepc hA qz5
  have fz0 := keepf hA (hl0) fz0
  have fz1 := keepf hA (hl0) fz1
  have fz2 := keepf hA (hl0) fz2
  have fz3 := keepf hA (hl0) fz3
  have fz4 := keepf hA (hl0) fz4
  have fz5 := keepf hA (hl0) fz5
  have hl1 : w.heap.size + 1 < (w0.alloc (.cells #[] 37)).drew.heap.size := lt_of_cell qz0
  have hst : Stays w.heap.size w0.heap[w.heap.size]? w0 := ⟨rfl⟩
  have hstA : Stays w.heap.size w0.heap[w.heap.size]? (w0.alloc (.cells #[] 37)).drew := ⟨hA.block _ hl0'⟩
  refine wp_region_T (Stays _ _) [32] [] [4, 7] [0, 1, 3, 4, 2, 5, 6, 7] (by kernel_rfl) (by kernel_rfl) (by kernel_rfl) (Stays.drew hst) ?_; simp only [pickL, List.getElem?_cons_succ, List.getElem?_cons_zero]
  go_wp2_with (first
    | ((with_reducible refine wpT_xs0 ?_ ?_ ?_); (focus rfl); (focus rfl); intro K hK; refine wp_app encReply_len (by omega) encReply_one _ _ 30 rfl 37 _ 32 Try.underlying30 infoReply rfl w0.heap.size _ [] rfl ho lo hi _ xs _ _ rfl hn'.out hs0 (by have := hn'.out; simp [maxLen]; omega) (by simp) ?_; intro v3 w3 ho3' hg3 hb3; have hl3 : w0.heap.size ≤ w3.heap.size := (by have := hb3.size; simp at this; omega); have hst3 : Stays w.heap.size w0.heap[w.heap.size]? w3 := ⟨(hb3.block _ hl0').trans hstA.heap⟩; obtain ⟨A3, c3, rfl, h31, h32, _⟩ := ho3'.form; have x0 := keepB hb3 hl0' x0; have x1 := keepB hb3 hl0' x1; have x2 := keepB hb3 hl0' x2; have x3 := keepB hb3 hl0' x3; have x4 := keepB hb3 hl0' x4; have x5 := keepB hb3 hl0' x5; have qz0 := keepB hb3 hl0 qz0; have qz1 := keepB hb3 hl0 qz1; have qz2 := keepB hb3 hl0 qz2; have qz3 := keepB hb3 hl0 qz3; have qz4 := keepB hb3 hl0 qz4; have qz5 := keepB hb3 hl0 qz5; have fz0 := keepfB hb3 hl0 fz0; have fz1 := keepfB hb3 hl0 fz1; have fz2 := keepfB hb3 hl0 fz2; have fz3 := keepfB hb3 hl0 fz3; have fz4 := keepfB hb3 hl0 fz4; have fz5 := keepfB hb3 hl0 fz5)
    | ((with_reducible refine Stays.and_ ?_ ?_); (focus (repeat (first | (with_reducible assumption) | ((with_reducible refine Stays.cell ?_ ?_); rotate_left; (focus (first | (with_reducible assumption) | (simp; done) | (simp; omega))))))); intro hS) | ((with_reducible refine wpT_q0 ?_ ?_ ?_ ?_); (focus rfl); (focus rfl); (focus rfl); intro K hK) | ((with_reducible apply wpT_k); (focus rfl); (focus rfl); (focus rfl); (focus rfl); (focus (first | assumption | exact Stays.drew (by assumption))); (focus rfl); (focus go_simp); intro K hK) | ((with_reducible refine wpT_xs0 ?_ ?_ ?_); (focus rfl); (focus rfl); intro K hK) | ((with_reducible refine wpT_noL ?_ ?_); (focus (first | exact wanted_no _ _ _ rfl rfl rfl | exact wanted_un _ _ _ rfl rfl rfl)); simp only [setO, List.set_cons_succ, List.set_cons_zero]) | ((with_reducible refine wpT_q1 ?_ ?_ ?_ ?_); (focus exact wanted_yes _ _ _ rfl rfl rfl); (focus rfl); (focus rfl); intro K hK) | ((with_reducible refine wpT_xs1 ?_ ?_ ?_); (focus exact wanted_yes _ _ _ rfl rfl rfl); (focus rfl); intro K hK) | ((with_reducible refine wpT_nil ?_); try dsimp only)
    | fail)
  have hB3 : Below w.heap.size w w3 := hB1.trans (hb3.mono hb0.size)
  refine bodyPost_ret (v := .agg #[.int .i64 r.1, .int .i64 r.2.1, .int .i64 r.2.2.1, .int .i64 r.2.2.2.1, .int .i64 r.2.2.2.2, .slice A3 xs.length c3]) (by simp [results, Try.results63, go_sem, qz0, qz1, qz2, qz3, qz4, qz5]) rfl ⟨A3, c3, rfl, ?_, set6_below _ _ _ _ _ _ (by omega) hB3⟩
  exact (ho3'.mono hb0.size).keep (fun k hk => set6_keep _ _ _ _ _ _ (by have := (ho3'.lt k hk).1; omega))
end Go.Proofs.Ytchofialljhojaa
