/-
  What 'LAc' rests on (texts of this seat put together: NI).
  Conditions: none.
-/
import Derived.Test.YtopmbnnjhoinkaaGreatZZ11
namespace Go.Proofs.YtopmbnnjhoinkaaGreat
open Go.RowKit Rg
set_option linter.unusedVariables false
set_option linter.unusedSimpArgs false
set_option maxHeartbeats 1000000
theorem heap3 (w : World) (a b c : Obj) : (((w.alloc a).alloc b).alloc c).heap[w.heap.size]? = some a ∧ (((w.alloc a).alloc b).alloc c).heap[w.heap.size + 1]? = some b ∧ (((w.alloc a).alloc b).alloc c).heap[w.heap.size + 1 + 1]? = some c ∧ (((w.alloc a).alloc b).alloc c).heap.size = w.heap.size + 1 + 1 + 1 := by
  have s1 : (w.alloc a).heap.size = w.heap.size + 1 := by simp
  have s2 : ((w.alloc a).alloc b).heap.size = w.heap.size + 1 + 1 := by simp
  have k1 := heap_alloc_new w a
  have k2 := heap_alloc_new (w.alloc a) b
  have k3 := heap_alloc_new ((w.alloc a).alloc b) c
  have b2 := (Below.refl (w.alloc a).heap.size (w.alloc a)).alloc (Nat.le_refl _) b
  have b3 := (Below.refl ((w.alloc a).alloc b).heap.size ((w.alloc a).alloc b)).alloc (Nat.le_refl _) c
  rw [s1] at k2 b2
  rw [s2] at k3 b3
  exact ⟨(b3.block _ (by omega)).trans ((b2.block _ (by omega)).trans k1), (b3.block _ (by omega)).trans k2, k3, by simp⟩
section
variable {w : World} {b k : Nat} {v0 v1 v2 v3 v4 v5 v6 v7 v8 v9 v10 : Value}
theorem cell11 (h : w.heap[b]? = some (.cells #[v0, v1, v2, v3, v4, v5, v6, v7, v8, v9, v10] k)) : w.cell? ⟨b, 0, none⟩ = some v0 ∧ w.cell? ⟨b, 1, none⟩ = some v1 ∧ w.cell? ⟨b, 2, none⟩ = some v2 ∧ w.cell? ⟨b, 3, none⟩ = some v3 ∧ w.cell? ⟨b, 4, none⟩ = some v4 ∧ w.cell? ⟨b, 5, none⟩ = some v5 ∧ w.cell? ⟨b, 6, none⟩ = some v6 ∧ w.cell? ⟨b, 7, none⟩ = some v7 ∧ w.cell? ⟨b, 8, none⟩ = some v8 ∧ w.cell? ⟨b, 9, none⟩ = some v9 ∧ w.cell? ⟨b, 10, none⟩ = some v10 := by
  simp only [World.cell?, h]
  exact ⟨rfl, rfl, rfl, rfl, rfl, rfl, rfl, rfl, rfl, rfl, rfl⟩
theorem frozen11 (h : w.heap[b]? = some (.cells #[v0, v1, v2, v3, v4, v5, v6, v7, v8, v9, v10] k)) : w.frozen? ⟨b, 0, none⟩ = false ∧ w.frozen? ⟨b, 1, none⟩ = false ∧ w.frozen? ⟨b, 2, none⟩ = false ∧ w.frozen? ⟨b, 3, none⟩ = false ∧ w.frozen? ⟨b, 4, none⟩ = false ∧ w.frozen? ⟨b, 5, none⟩ = false ∧ w.frozen? ⟨b, 6, none⟩ = false ∧ w.frozen? ⟨b, 7, none⟩ = false ∧ w.frozen? ⟨b, 8, none⟩ = false ∧ w.frozen? ⟨b, 9, none⟩ = false ∧ w.frozen? ⟨b, 10, none⟩ = false := by
  simp only [World.frozen?, h]
  simp
end
set_option maxRecDepth 100000 in
set_option maxHeartbeats 4000000 in
theorem bare1_c (kd f v s a b c0 x y : Int) (cs : List ClaimT) (vs : List VoteT) (A B : Option Addr) (n c p d lo hi : Nat) (w : World) (hc : RdN 7 clR w lo hi A n c cs) (hv : RdN 2 voteR w lo hi B p d vs) (hhi : hi ≤ w.heap.size) :
    Calls Tryz.prog 43 #[.agg #[.int .i64 1, .int .i64 f, .int .i64 v, .int .i64 s, .int .i64 a, .int .i64 b, .int .i64 c0, .int .i64 x, .int .i64 y, .slice A n c, .slice B p d]] w fun e w' => Hid (e = .returned (.agg #[.int .i64 1, .int .i64 0, .int .i64 0, .int .i64 0, .int .i64 a, .int .i64 b, .int .i64 c0, .int .i64 x, .int .i64 y, .slice none 0 0, .slice none 0 0])) ∧ Below w.heap.size w w' := by
  have hB : Below w.heap.size w (((w.alloc (.cells #[.int .i64 1, .int .i64 f, .int .i64 v, .int .i64 s, .int .i64 a, .int .i64 b, .int .i64 c0, .int .i64 x, .int .i64 y, .slice A n c, .slice B p d] 46)).alloc (.cells #[.int .i64 0, .int .i64 0, .int .i64 0, .int .i64 0, .int .i64 0, .int .i64 0, .int .i64 0, .int .i64 0, .int .i64 0, .slice none 0 0, .slice none 0 0] 46)).alloc (.cells #[.int .i64 1, .int .i64 0, .int .i64 0, .int .i64 0, .int .i64 0, .int .i64 0, .int .i64 0, .int .i64 0, .int .i64 0, .slice none 0 0, .slice none 0 0] 46)) := ((Below.refl _ _).alloc (Nat.le_refl _) _ |>.alloc (by simp) _).alloc (by simp; omega) _
  obtain ⟨t1, t2, t3, t4⟩ := heap3 w (.cells #[.int .i64 1, .int .i64 f, .int .i64 v, .int .i64 s, .int .i64 a, .int .i64 b, .int .i64 c0, .int .i64 x, .int .i64 y, .slice A n c, .slice B p d] 46) (.cells #[.int .i64 0, .int .i64 0, .int .i64 0, .int .i64 0, .int .i64 0, .int .i64 0, .int .i64 0, .int .i64 0, .int .i64 0, .slice none 0 0, .slice none 0 0] 46) (.cells #[.int .i64 1, .int .i64 0, .int .i64 0, .int .i64 0, .int .i64 0, .int .i64 0, .int .i64 0, .int .i64 0, .int .i64 0, .slice none 0 0, .slice none 0 0] 46)
  obtain ⟨x0, x1, x2, x3, x4, x5, x6, x7, x8, x9, x10⟩ := cell11 t1
  obtain ⟨z0, z1, z2, z3, z4, z5, z6, z7, z8, z9, z10⟩ := cell11 t2
  obtain ⟨zf0, zf1, zf2, zf3, zf4, zf5, zf6, zf7, zf8, zf9, zf10⟩ := frozen11 t2
  obtain ⟨y0, y1, y2, y3, y4, y5, y6, y7, y8, y9, y10⟩ := cell11 t3
  obtain ⟨yf0, yf1, yf2, yf3, yf4, yf5, yf6, yf7, yf8, yf9, yf10⟩ := frozen11 t3
  have hl : w.heap.size + 1 + 1 < (((w.alloc (.cells #[.int .i64 1, .int .i64 f, .int .i64 v, .int .i64 s, .int .i64 a, .int .i64 b, .int .i64 c0, .int .i64 x, .int .i64 y, .slice A n c, .slice B p d] 46)).alloc (.cells #[.int .i64 0, .int .i64 0, .int .i64 0, .int .i64 0, .int .i64 0, .int .i64 0, .int .i64 0, .int .i64 0, .int .i64 0, .slice none 0 0, .slice none 0 0] 46)).alloc (.cells #[.int .i64 1, .int .i64 0, .int .i64 0, .int .i64 0, .int .i64 0, .int .i64 0, .int .i64 0, .int .i64 0, .int .i64 0, .slice none 0 0, .slice none 0 0] 46)).heap.size := by rw [t4]; omega
  clear t1 t2 t3 t4
  go_enter Tryz.func43, Tryz.ntmps43
  go_wp2
  generalize (((w.alloc (.cells #[.int .i64 1, .int .i64 f, .int .i64 v, .int .i64 s, .int .i64 a, .int .i64 b, .int .i64 c0, .int .i64 x, .int .i64 y, .slice A n c, .slice B p d] 46)).alloc (.cells #[.int .i64 0, .int .i64 0, .int .i64 0, .int .i64 0, .int .i64 0, .int .i64 0, .int .i64 0, .int .i64 0, .int .i64 0, .slice none 0 0, .slice none 0 0] 46)).alloc (.cells #[.int .i64 1, .int .i64 0, .int .i64 0, .int .i64 0, .int .i64 0, .int .i64 0, .int .i64 0, .int .i64 0, .int .i64 0, .slice none 0 0, .slice none 0 0] 46)) = w3 at *
  refine bodyPost_ret (v := .agg #[.int .i64 1, .int .i64 0, .int .i64 0, .int .i64 0, .int .i64 a, .int .i64 b, .int .i64 c0, .int .i64 x, .int .i64 y, .slice none 0 0, .slice none 0 0]) (by simp [results, Tryz.results43, go_sem, x0, x1, x2, x3, x4, x5, x6, x7, x8, x9, x10, y0, y1, y2, y3, y4, y5, y6, y7, y8, y9, y10, z0, z1, z2, z3, z4, z5, z6, z7, z8, z9, z10]) rfl ⟨hide rfl, ?_⟩
  repeat (first | (with_reducible exact hB) | (with_reducible exact Below.refl _ _) | (with_reducible refine Below.drew ?_) | ((with_reducible refine Below.setCell ?_ ?_ _); rotate_left; (focus (first | (simp; done) | (simp; omega)))) | ((with_reducible refine Below.alloc ?_ ?_ _); rotate_left; (focus (first | (simp; done) | (simp; omega)))))
set_option maxRecDepth 100000 in
set_option maxHeartbeats 4000000 in
theorem bare2_c (kd f v s a b c0 x y : Int) (cs : List ClaimT) (vs : List VoteT) (A B : Option Addr) (n c p d lo hi : Nat) (w : World) (hc : RdN 7 clR w lo hi A n c cs) (hv : RdN 2 voteR w lo hi B p d vs) (hhi : hi ≤ w.heap.size) :
    Calls Tryz.prog 43 #[.agg #[.int .i64 2, .int .i64 f, .int .i64 v, .int .i64 s, .int .i64 a, .int .i64 b, .int .i64 c0, .int .i64 x, .int .i64 y, .slice A n c, .slice B p d]] w fun e w' => Hid (e = .returned (.agg #[.int .i64 2, .int .i64 f, .int .i64 v, .int .i64 s, .int .i64 a, .int .i64 b, .int .i64 c0, .int .i64 x, .int .i64 y, .slice none 0 0, .slice none 0 0])) ∧ Below w.heap.size w w' := by
  have hB : Below w.heap.size w (((w.alloc (.cells #[.int .i64 2, .int .i64 f, .int .i64 v, .int .i64 s, .int .i64 a, .int .i64 b, .int .i64 c0, .int .i64 x, .int .i64 y, .slice A n c, .slice B p d] 46)).alloc (.cells #[.int .i64 0, .int .i64 0, .int .i64 0, .int .i64 0, .int .i64 0, .int .i64 0, .int .i64 0, .int .i64 0, .int .i64 0, .slice none 0 0, .slice none 0 0] 46)).alloc (.cells #[.int .i64 2, .int .i64 0, .int .i64 0, .int .i64 0, .int .i64 0, .int .i64 0, .int .i64 0, .int .i64 0, .int .i64 0, .slice none 0 0, .slice none 0 0] 46)) := ((Below.refl _ _).alloc (Nat.le_refl _) _ |>.alloc (by simp) _).alloc (by simp; omega) _
  obtain ⟨t1, t2, t3, t4⟩ := heap3 w (.cells #[.int .i64 2, .int .i64 f, .int .i64 v, .int .i64 s, .int .i64 a, .int .i64 b, .int .i64 c0, .int .i64 x, .int .i64 y, .slice A n c, .slice B p d] 46) (.cells #[.int .i64 0, .int .i64 0, .int .i64 0, .int .i64 0, .int .i64 0, .int .i64 0, .int .i64 0, .int .i64 0, .int .i64 0, .slice none 0 0, .slice none 0 0] 46) (.cells #[.int .i64 2, .int .i64 0, .int .i64 0, .int .i64 0, .int .i64 0, .int .i64 0, .int .i64 0, .int .i64 0, .int .i64 0, .slice none 0 0, .slice none 0 0] 46)
  obtain ⟨x0, x1, x2, x3, x4, x5, x6, x7, x8, x9, x10⟩ := cell11 t1
  obtain ⟨z0, z1, z2, z3, z4, z5, z6, z7, z8, z9, z10⟩ := cell11 t2
  obtain ⟨zf0, zf1, zf2, zf3, zf4, zf5, zf6, zf7, zf8, zf9, zf10⟩ := frozen11 t2
  obtain ⟨y0, y1, y2, y3, y4, y5, y6, y7, y8, y9, y10⟩ := cell11 t3
  obtain ⟨yf0, yf1, yf2, yf3, yf4, yf5, yf6, yf7, yf8, yf9, yf10⟩ := frozen11 t3
  have hl : w.heap.size + 1 + 1 < (((w.alloc (.cells #[.int .i64 2, .int .i64 f, .int .i64 v, .int .i64 s, .int .i64 a, .int .i64 b, .int .i64 c0, .int .i64 x, .int .i64 y, .slice A n c, .slice B p d] 46)).alloc (.cells #[.int .i64 0, .int .i64 0, .int .i64 0, .int .i64 0, .int .i64 0, .int .i64 0, .int .i64 0, .int .i64 0, .int .i64 0, .slice none 0 0, .slice none 0 0] 46)).alloc (.cells #[.int .i64 2, .int .i64 0, .int .i64 0, .int .i64 0, .int .i64 0, .int .i64 0, .int .i64 0, .int .i64 0, .int .i64 0, .slice none 0 0, .slice none 0 0] 46)).heap.size := by rw [t4]; omega
  clear t1 t2 t3 t4
  go_enter Tryz.func43, Tryz.ntmps43
  go_wp2
  generalize (((w.alloc (.cells #[.int .i64 2, .int .i64 f, .int .i64 v, .int .i64 s, .int .i64 a, .int .i64 b, .int .i64 c0, .int .i64 x, .int .i64 y, .slice A n c, .slice B p d] 46)).alloc (.cells #[.int .i64 0, .int .i64 0, .int .i64 0, .int .i64 0, .int .i64 0, .int .i64 0, .int .i64 0, .int .i64 0, .int .i64 0, .slice none 0 0, .slice none 0 0] 46)).alloc (.cells #[.int .i64 2, .int .i64 0, .int .i64 0, .int .i64 0, .int .i64 0, .int .i64 0, .int .i64 0, .int .i64 0, .int .i64 0, .slice none 0 0, .slice none 0 0] 46)) = w3 at *
  have hst1 : Stays w.heap.size w3.heap[w.heap.size]? w3 := ⟨rfl⟩
  refine wp_region_T (Stays _ _) [46] [] [13] [0, 1, 2, 3, 4, 5, 6, 7] (by kernel_rfl) (by kernel_rfl) (by kernel_rfl) (Stays.drew hst1) ?_; simp only [pickL, List.getElem?_cons_succ, List.getElem?_cons_zero]
  go_wp2_with (first
    | ((refine no_implicit_lambda% (g9_ ?_)); intro hS) | ((refine no_implicit_lambda% (g8_ ?_)); intro K hK) | (refine no_implicit_lambda% (g1_ ?_)) | ((refine no_implicit_lambda% (g6_ ?_)); intro K hK) | (refine no_implicit_lambda% (g3_ ?_))
    | fail)
  have hst2 : Stays w.heap.size w3.heap[w.heap.size]? (((w3.setCell ⟨w.heap.size + 1 + 1, 1, none⟩ (.int .i64 f)).setCell ⟨w.heap.size + 1 + 1, 2, none⟩ (.int .i64 v))).drew := (hst1.cell (p := ⟨w.heap.size + 1 + 1, 1, none⟩) (by show w.heap.size ≠ w.heap.size + 1 + 1; omega) (u := .int .i64 f).cell (p := ⟨w.heap.size + 1 + 1, 2, none⟩) (by show w.heap.size ≠ w.heap.size + 1 + 1; omega) (u := .int .i64 v)).drew
  refine wp_region_T (Stays _ _) [46] [] [30] [0, 1, 2, 3, 4, 5, 6, 7] (by kernel_rfl) (by kernel_rfl) (by kernel_rfl) (Stays.drew hst2) ?_; simp only [pickL, List.getElem?_cons_succ, List.getElem?_cons_zero]
  go_wp2_with (first
    | ((refine no_implicit_lambda% (g9_ ?_)); intro hS) | ((refine no_implicit_lambda% (g8_ ?_)); intro K hK) | (refine no_implicit_lambda% (g1_ ?_)) | ((refine no_implicit_lambda% (g6_ ?_)); intro K hK) | (refine no_implicit_lambda% (g3_ ?_))
    | fail)
  refine bodyPost_ret (v := .agg #[.int .i64 2, .int .i64 f, .int .i64 v, .int .i64 s, .int .i64 a, .int .i64 b, .int .i64 c0, .int .i64 x, .int .i64 y, .slice none 0 0, .slice none 0 0]) (by simp [results, Tryz.results43, go_sem, x0, x1, x2, x3, x4, x5, x6, x7, x8, x9, x10, y0, y1, y2, y3, y4, y5, y6, y7, y8, y9, y10, z0, z1, z2, z3, z4, z5, z6, z7, z8, z9, z10]) rfl ⟨hide rfl, ?_⟩
  repeat (first | (with_reducible exact hB) | (with_reducible exact Below.refl _ _) | (with_reducible refine Below.drew ?_) | ((with_reducible refine Below.setCell ?_ ?_ _); rotate_left; (focus (first | (simp; done) | (simp; omega)))) | ((with_reducible refine Below.alloc ?_ ?_ _); rotate_left; (focus (first | (simp; done) | (simp; omega)))))
set_option maxRecDepth 100000 in
set_option maxHeartbeats 4000000 in
theorem bare3_c (kd f v s a b c0 x y : Int) (cs : List ClaimT) (vs : List VoteT) (A B : Option Addr) (n c p d lo hi : Nat) (w : World) (hc : RdN 7 clR w lo hi A n c cs) (hv : RdN 2 voteR w lo hi B p d vs) (hhi : hi ≤ w.heap.size) :
    Calls Tryz.prog 43 #[.agg #[.int .i64 3, .int .i64 f, .int .i64 v, .int .i64 s, .int .i64 a, .int .i64 b, .int .i64 c0, .int .i64 x, .int .i64 y, .slice A n c, .slice B p d]] w fun e w' => Hid (e = .returned (.agg #[.int .i64 3, .int .i64 f, .int .i64 v, .int .i64 s, .int .i64 a, .int .i64 b, .int .i64 c0, .int .i64 x, .int .i64 y, .slice none 0 0, .slice none 0 0])) ∧ Below w.heap.size w w' := by
  have hB : Below w.heap.size w (((w.alloc (.cells #[.int .i64 3, .int .i64 f, .int .i64 v, .int .i64 s, .int .i64 a, .int .i64 b, .int .i64 c0, .int .i64 x, .int .i64 y, .slice A n c, .slice B p d] 46)).alloc (.cells #[.int .i64 0, .int .i64 0, .int .i64 0, .int .i64 0, .int .i64 0, .int .i64 0, .int .i64 0, .int .i64 0, .int .i64 0, .slice none 0 0, .slice none 0 0] 46)).alloc (.cells #[.int .i64 3, .int .i64 0, .int .i64 0, .int .i64 0, .int .i64 0, .int .i64 0, .int .i64 0, .int .i64 0, .int .i64 0, .slice none 0 0, .slice none 0 0] 46)) := ((Below.refl _ _).alloc (Nat.le_refl _) _ |>.alloc (by simp) _).alloc (by simp; omega) _
  obtain ⟨t1, t2, t3, t4⟩ := heap3 w (.cells #[.int .i64 3, .int .i64 f, .int .i64 v, .int .i64 s, .int .i64 a, .int .i64 b, .int .i64 c0, .int .i64 x, .int .i64 y, .slice A n c, .slice B p d] 46) (.cells #[.int .i64 0, .int .i64 0, .int .i64 0, .int .i64 0, .int .i64 0, .int .i64 0, .int .i64 0, .int .i64 0, .int .i64 0, .slice none 0 0, .slice none 0 0] 46) (.cells #[.int .i64 3, .int .i64 0, .int .i64 0, .int .i64 0, .int .i64 0, .int .i64 0, .int .i64 0, .int .i64 0, .int .i64 0, .slice none 0 0, .slice none 0 0] 46)
  obtain ⟨x0, x1, x2, x3, x4, x5, x6, x7, x8, x9, x10⟩ := cell11 t1
  obtain ⟨z0, z1, z2, z3, z4, z5, z6, z7, z8, z9, z10⟩ := cell11 t2
  obtain ⟨zf0, zf1, zf2, zf3, zf4, zf5, zf6, zf7, zf8, zf9, zf10⟩ := frozen11 t2
  obtain ⟨y0, y1, y2, y3, y4, y5, y6, y7, y8, y9, y10⟩ := cell11 t3
  obtain ⟨yf0, yf1, yf2, yf3, yf4, yf5, yf6, yf7, yf8, yf9, yf10⟩ := frozen11 t3
  have hl : w.heap.size + 1 + 1 < (((w.alloc (.cells #[.int .i64 3, .int .i64 f, .int .i64 v, .int .i64 s, .int .i64 a, .int .i64 b, .int .i64 c0, .int .i64 x, .int .i64 y, .slice A n c, .slice B p d] 46)).alloc (.cells #[.int .i64 0, .int .i64 0, .int .i64 0, .int .i64 0, .int .i64 0, .int .i64 0, .int .i64 0, .int .i64 0, .int .i64 0, .slice none 0 0, .slice none 0 0] 46)).alloc (.cells #[.int .i64 3, .int .i64 0, .int .i64 0, .int .i64 0, .int .i64 0, .int .i64 0, .int .i64 0, .int .i64 0, .int .i64 0, .slice none 0 0, .slice none 0 0] 46)).heap.size := by rw [t4]; omega
  clear t1 t2 t3 t4
  go_enter Tryz.func43, Tryz.ntmps43
  go_wp2
  generalize (((w.alloc (.cells #[.int .i64 3, .int .i64 f, .int .i64 v, .int .i64 s, .int .i64 a, .int .i64 b, .int .i64 c0, .int .i64 x, .int .i64 y, .slice A n c, .slice B p d] 46)).alloc (.cells #[.int .i64 0, .int .i64 0, .int .i64 0, .int .i64 0, .int .i64 0, .int .i64 0, .int .i64 0, .int .i64 0, .int .i64 0, .slice none 0 0, .slice none 0 0] 46)).alloc (.cells #[.int .i64 3, .int .i64 0, .int .i64 0, .int .i64 0, .int .i64 0, .int .i64 0, .int .i64 0, .int .i64 0, .int .i64 0, .slice none 0 0, .slice none 0 0] 46)) = w3 at *
  have hst1 : Stays w.heap.size w3.heap[w.heap.size]? w3 := ⟨rfl⟩
  refine wp_region_T (Stays _ _) [46] [] [13] [0, 1, 2, 3, 4, 5, 6, 7] (by kernel_rfl) (by kernel_rfl) (by kernel_rfl) (Stays.drew hst1) ?_; simp only [pickL, List.getElem?_cons_succ, List.getElem?_cons_zero]
  go_wp2_with (first
    | ((refine no_implicit_lambda% (g9_ ?_)); intro hS) | ((refine no_implicit_lambda% (g8_ ?_)); intro K hK) | (refine no_implicit_lambda% (g1_ ?_)) | ((refine no_implicit_lambda% (g6_ ?_)); intro K hK) | (refine no_implicit_lambda% (g3_ ?_))
    | fail)
  have hst2 : Stays w.heap.size w3.heap[w.heap.size]? (((w3.setCell ⟨w.heap.size + 1 + 1, 1, none⟩ (.int .i64 f)).setCell ⟨w.heap.size + 1 + 1, 2, none⟩ (.int .i64 v))).drew := (hst1.cell (p := ⟨w.heap.size + 1 + 1, 1, none⟩) (by show w.heap.size ≠ w.heap.size + 1 + 1; omega) (u := .int .i64 f).cell (p := ⟨w.heap.size + 1 + 1, 2, none⟩) (by show w.heap.size ≠ w.heap.size + 1 + 1; omega) (u := .int .i64 v)).drew
  refine wp_region_T (Stays _ _) [46] [] [30] [0, 1, 2, 3, 4, 5, 6, 7] (by kernel_rfl) (by kernel_rfl) (by kernel_rfl) (Stays.drew hst2) ?_; simp only [pickL, List.getElem?_cons_succ, List.getElem?_cons_zero]
  go_wp2_with (first
    | ((refine no_implicit_lambda% (g9_ ?_)); intro hS) | ((refine no_implicit_lambda% (g8_ ?_)); intro K hK) | (refine no_implicit_lambda% (g1_ ?_)) | ((refine no_implicit_lambda% (g6_ ?_)); intro K hK) | (refine no_implicit_lambda% (g3_ ?_))
    | fail)
  refine bodyPost_ret (v := .agg #[.int .i64 3, .int .i64 f, .int .i64 v, .int .i64 s, .int .i64 a, .int .i64 b, .int .i64 c0, .int .i64 x, .int .i64 y, .slice none 0 0, .slice none 0 0]) (by simp [results, Tryz.results43, go_sem, x0, x1, x2, x3, x4, x5, x6, x7, x8, x9, x10, y0, y1, y2, y3, y4, y5, y6, y7, y8, y9, y10, z0, z1, z2, z3, z4, z5, z6, z7, z8, z9, z10]) rfl ⟨hide rfl, ?_⟩
  repeat (first | (with_reducible exact hB) | (with_reducible exact Below.refl _ _) | (with_reducible refine Below.drew ?_) | ((with_reducible refine Below.setCell ?_ ?_ _); rotate_left; (focus (first | (simp; done) | (simp; omega)))) | ((with_reducible refine Below.alloc ?_ ?_ _); rotate_left; (focus (first | (simp; done) | (simp; omega)))))
set_option maxRecDepth 100000 in
set_option maxHeartbeats 4000000 in
theorem bare4_c (kd f v s a b c0 x y : Int) (cs : List ClaimT) (vs : List VoteT) (A B : Option Addr) (n c p d lo hi : Nat) (w : World) (hc : RdN 7 clR w lo hi A n c cs) (hv : RdN 2 voteR w lo hi B p d vs) (hhi : hi ≤ w.heap.size) :
    Calls Tryz.prog 43 #[.agg #[.int .i64 4, .int .i64 f, .int .i64 v, .int .i64 s, .int .i64 a, .int .i64 b, .int .i64 c0, .int .i64 x, .int .i64 y, .slice A n c, .slice B p d]] w fun e w' => Hid (e = .returned (.agg #[.int .i64 4, .int .i64 f, .int .i64 v, .int .i64 s, .int .i64 a, .int .i64 b, .int .i64 c0, .int .i64 x, .int .i64 y, .slice none 0 0, .slice none 0 0])) ∧ Below w.heap.size w w' := by
  have hB : Below w.heap.size w (((w.alloc (.cells #[.int .i64 4, .int .i64 f, .int .i64 v, .int .i64 s, .int .i64 a, .int .i64 b, .int .i64 c0, .int .i64 x, .int .i64 y, .slice A n c, .slice B p d] 46)).alloc (.cells #[.int .i64 0, .int .i64 0, .int .i64 0, .int .i64 0, .int .i64 0, .int .i64 0, .int .i64 0, .int .i64 0, .int .i64 0, .slice none 0 0, .slice none 0 0] 46)).alloc (.cells #[.int .i64 4, .int .i64 0, .int .i64 0, .int .i64 0, .int .i64 0, .int .i64 0, .int .i64 0, .int .i64 0, .int .i64 0, .slice none 0 0, .slice none 0 0] 46)) := ((Below.refl _ _).alloc (Nat.le_refl _) _ |>.alloc (by simp) _).alloc (by simp; omega) _
  obtain ⟨t1, t2, t3, t4⟩ := heap3 w (.cells #[.int .i64 4, .int .i64 f, .int .i64 v, .int .i64 s, .int .i64 a, .int .i64 b, .int .i64 c0, .int .i64 x, .int .i64 y, .slice A n c, .slice B p d] 46) (.cells #[.int .i64 0, .int .i64 0, .int .i64 0, .int .i64 0, .int .i64 0, .int .i64 0, .int .i64 0, .int .i64 0, .int .i64 0, .slice none 0 0, .slice none 0 0] 46) (.cells #[.int .i64 4, .int .i64 0, .int .i64 0, .int .i64 0, .int .i64 0, .int .i64 0, .int .i64 0, .int .i64 0, .int .i64 0, .slice none 0 0, .slice none 0 0] 46)
  obtain ⟨x0, x1, x2, x3, x4, x5, x6, x7, x8, x9, x10⟩ := cell11 t1
  obtain ⟨z0, z1, z2, z3, z4, z5, z6, z7, z8, z9, z10⟩ := cell11 t2
  obtain ⟨zf0, zf1, zf2, zf3, zf4, zf5, zf6, zf7, zf8, zf9, zf10⟩ := frozen11 t2
  obtain ⟨y0, y1, y2, y3, y4, y5, y6, y7, y8, y9, y10⟩ := cell11 t3
  obtain ⟨yf0, yf1, yf2, yf3, yf4, yf5, yf6, yf7, yf8, yf9, yf10⟩ := frozen11 t3
  have hl : w.heap.size + 1 + 1 < (((w.alloc (.cells #[.int .i64 4, .int .i64 f, .int .i64 v, .int .i64 s, .int .i64 a, .int .i64 b, .int .i64 c0, .int .i64 x, .int .i64 y, .slice A n c, .slice B p d] 46)).alloc (.cells #[.int .i64 0, .int .i64 0, .int .i64 0, .int .i64 0, .int .i64 0, .int .i64 0, .int .i64 0, .int .i64 0, .int .i64 0, .slice none 0 0, .slice none 0 0] 46)).alloc (.cells #[.int .i64 4, .int .i64 0, .int .i64 0, .int .i64 0, .int .i64 0, .int .i64 0, .int .i64 0, .int .i64 0, .int .i64 0, .slice none 0 0, .slice none 0 0] 46)).heap.size := by rw [t4]; omega
  clear t1 t2 t3 t4
  go_enter Tryz.func43, Tryz.ntmps43
  go_wp2
  generalize (((w.alloc (.cells #[.int .i64 4, .int .i64 f, .int .i64 v, .int .i64 s, .int .i64 a, .int .i64 b, .int .i64 c0, .int .i64 x, .int .i64 y, .slice A n c, .slice B p d] 46)).alloc (.cells #[.int .i64 0, .int .i64 0, .int .i64 0, .int .i64 0, .int .i64 0, .int .i64 0, .int .i64 0, .int .i64 0, .int .i64 0, .slice none 0 0, .slice none 0 0] 46)).alloc (.cells #[.int .i64 4, .int .i64 0, .int .i64 0, .int .i64 0, .int .i64 0, .int .i64 0, .int .i64 0, .int .i64 0, .int .i64 0, .slice none 0 0, .slice none 0 0] 46)) = w3 at *
  have hst1 : Stays w.heap.size w3.heap[w.heap.size]? w3 := ⟨rfl⟩
  refine wp_region_T (Stays _ _) [46] [] [13] [0, 1, 2, 3, 4, 5, 6, 7] (by kernel_rfl) (by kernel_rfl) (by kernel_rfl) (Stays.drew hst1) ?_; simp only [pickL, List.getElem?_cons_succ, List.getElem?_cons_zero]
  go_wp2_with (first
    | ((refine no_implicit_lambda% (g9_ ?_)); intro hS) | ((refine no_implicit_lambda% (g8_ ?_)); intro K hK) | (refine no_implicit_lambda% (g1_ ?_)) | ((refine no_implicit_lambda% (g6_ ?_)); intro K hK) | (refine no_implicit_lambda% (g3_ ?_))
    | fail)
  have hst2 : Stays w.heap.size w3.heap[w.heap.size]? (((w3.setCell ⟨w.heap.size + 1 + 1, 1, none⟩ (.int .i64 f)).setCell ⟨w.heap.size + 1 + 1, 2, none⟩ (.int .i64 v))).drew := (hst1.cell (p := ⟨w.heap.size + 1 + 1, 1, none⟩) (by show w.heap.size ≠ w.heap.size + 1 + 1; omega) (u := .int .i64 f).cell (p := ⟨w.heap.size + 1 + 1, 2, none⟩) (by show w.heap.size ≠ w.heap.size + 1 + 1; omega) (u := .int .i64 v)).drew
  refine wp_region_T (Stays _ _) [46] [] [30] [0, 1, 2, 3, 4, 5, 6, 7] (by kernel_rfl) (by kernel_rfl) (by kernel_rfl) (Stays.drew hst2) ?_; simp only [pickL, List.getElem?_cons_succ, List.getElem?_cons_zero]
  go_wp2_with (first
    | ((refine no_implicit_lambda% (g9_ ?_)); intro hS) | ((refine no_implicit_lambda% (g8_ ?_)); intro K hK) | (refine no_implicit_lambda% (g1_ ?_)) | ((refine no_implicit_lambda% (g6_ ?_)); intro K hK) | (refine no_implicit_lambda% (g3_ ?_))
    | fail)
  refine bodyPost_ret (v := .agg #[.int .i64 4, .int .i64 f, .int .i64 v, .int .i64 s, .int .i64 a, .int .i64 b, .int .i64 c0, .int .i64 x, .int .i64 y, .slice none 0 0, .slice none 0 0]) (by simp [results, Tryz.results43, go_sem, x0, x1, x2, x3, x4, x5, x6, x7, x8, x9, x10, y0, y1, y2, y3, y4, y5, y6, y7, y8, y9, y10, z0, z1, z2, z3, z4, z5, z6, z7, z8, z9, z10]) rfl ⟨hide rfl, ?_⟩
  repeat (first | (with_reducible exact hB) | (with_reducible exact Below.refl _ _) | (with_reducible refine Below.drew ?_) | ((with_reducible refine Below.setCell ?_ ?_ _); rotate_left; (focus (first | (simp; done) | (simp; omega)))) | ((with_reducible refine Below.alloc ?_ ?_ _); rotate_left; (focus (first | (simp; done) | (simp; omega)))))
set_option maxRecDepth 100000 in
set_option maxHeartbeats 4000000 in
theorem bare5_c (kd f v s a b c0 x y : Int) (cs : List ClaimT) (vs : List VoteT) (A B : Option Addr) (n c p d lo hi : Nat) (w : World) (hc : RdN 7 clR w lo hi A n c cs) (hv : RdN 2 voteR w lo hi B p d vs) (hhi : hi ≤ w.heap.size) :
    Calls Tryz.prog 43 #[.agg #[.int .i64 5, .int .i64 f, .int .i64 v, .int .i64 s, .int .i64 a, .int .i64 b, .int .i64 c0, .int .i64 x, .int .i64 y, .slice A n c, .slice B p d]] w fun e w' => Hid (e = .returned (.agg #[.int .i64 5, .int .i64 f, .int .i64 v, .int .i64 0, .int .i64 0, .int .i64 0, .int .i64 0, .int .i64 0, .int .i64 0, .slice A n c, .slice none 0 0])) ∧ Below w.heap.size w w' := by
  have hB : Below w.heap.size w (((w.alloc (.cells #[.int .i64 5, .int .i64 f, .int .i64 v, .int .i64 s, .int .i64 a, .int .i64 b, .int .i64 c0, .int .i64 x, .int .i64 y, .slice A n c, .slice B p d] 46)).alloc (.cells #[.int .i64 0, .int .i64 0, .int .i64 0, .int .i64 0, .int .i64 0, .int .i64 0, .int .i64 0, .int .i64 0, .int .i64 0, .slice none 0 0, .slice none 0 0] 46)).alloc (.cells #[.int .i64 5, .int .i64 0, .int .i64 0, .int .i64 0, .int .i64 0, .int .i64 0, .int .i64 0, .int .i64 0, .int .i64 0, .slice none 0 0, .slice none 0 0] 46)) := ((Below.refl _ _).alloc (Nat.le_refl _) _ |>.alloc (by simp) _).alloc (by simp; omega) _
  obtain ⟨t1, t2, t3, t4⟩ := heap3 w (.cells #[.int .i64 5, .int .i64 f, .int .i64 v, .int .i64 s, .int .i64 a, .int .i64 b, .int .i64 c0, .int .i64 x, .int .i64 y, .slice A n c, .slice B p d] 46) (.cells #[.int .i64 0, .int .i64 0, .int .i64 0, .int .i64 0, .int .i64 0, .int .i64 0, .int .i64 0, .int .i64 0, .int .i64 0, .slice none 0 0, .slice none 0 0] 46) (.cells #[.int .i64 5, .int .i64 0, .int .i64 0, .int .i64 0, .int .i64 0, .int .i64 0, .int .i64 0, .int .i64 0, .int .i64 0, .slice none 0 0, .slice none 0 0] 46)
  obtain ⟨x0, x1, x2, x3, x4, x5, x6, x7, x8, x9, x10⟩ := cell11 t1
  obtain ⟨z0, z1, z2, z3, z4, z5, z6, z7, z8, z9, z10⟩ := cell11 t2
  obtain ⟨zf0, zf1, zf2, zf3, zf4, zf5, zf6, zf7, zf8, zf9, zf10⟩ := frozen11 t2
  obtain ⟨y0, y1, y2, y3, y4, y5, y6, y7, y8, y9, y10⟩ := cell11 t3
  obtain ⟨yf0, yf1, yf2, yf3, yf4, yf5, yf6, yf7, yf8, yf9, yf10⟩ := frozen11 t3
  have hl : w.heap.size + 1 + 1 < (((w.alloc (.cells #[.int .i64 5, .int .i64 f, .int .i64 v, .int .i64 s, .int .i64 a, .int .i64 b, .int .i64 c0, .int .i64 x, .int .i64 y, .slice A n c, .slice B p d] 46)).alloc (.cells #[.int .i64 0, .int .i64 0, .int .i64 0, .int .i64 0, .int .i64 0, .int .i64 0, .int .i64 0, .int .i64 0, .int .i64 0, .slice none 0 0, .slice none 0 0] 46)).alloc (.cells #[.int .i64 5, .int .i64 0, .int .i64 0, .int .i64 0, .int .i64 0, .int .i64 0, .int .i64 0, .int .i64 0, .int .i64 0, .slice none 0 0, .slice none 0 0] 46)).heap.size := by rw [t4]; omega
  clear t1 t2 t3 t4
  go_enter Tryz.func43, Tryz.ntmps43
  go_wp2
  generalize (((w.alloc (.cells #[.int .i64 5, .int .i64 f, .int .i64 v, .int .i64 s, .int .i64 a, .int .i64 b, .int .i64 c0, .int .i64 x, .int .i64 y, .slice A n c, .slice B p d] 46)).alloc (.cells #[.int .i64 0, .int .i64 0, .int .i64 0, .int .i64 0, .int .i64 0, .int .i64 0, .int .i64 0, .int .i64 0, .int .i64 0, .slice none 0 0, .slice none 0 0] 46)).alloc (.cells #[.int .i64 5, .int .i64 0, .int .i64 0, .int .i64 0, .int .i64 0, .int .i64 0, .int .i64 0, .int .i64 0, .int .i64 0, .slice none 0 0, .slice none 0 0] 46)) = w3 at *
  have hst1 : Stays w.heap.size w3.heap[w.heap.size]? w3 := ⟨rfl⟩
  refine wp_region_T (Stays _ _) [46] [] [13] [0, 1, 2, 3, 4, 5, 6, 7] (by kernel_rfl) (by kernel_rfl) (by kernel_rfl) (Stays.drew hst1) ?_; simp only [pickL, List.getElem?_cons_succ, List.getElem?_cons_zero]
  go_wp2_with (first
    | ((refine no_implicit_lambda% (g9_ ?_)); intro hS) | ((refine no_implicit_lambda% (g8_ ?_)); intro K hK) | (refine no_implicit_lambda% (g1_ ?_)) | ((refine no_implicit_lambda% (g6_ ?_)); intro K hK) | (refine no_implicit_lambda% (g3_ ?_))
    | fail)
  refine bodyPost_ret (v := .agg #[.int .i64 5, .int .i64 f, .int .i64 v, .int .i64 0, .int .i64 0, .int .i64 0, .int .i64 0, .int .i64 0, .int .i64 0, .slice A n c, .slice none 0 0]) (by simp [results, Tryz.results43, go_sem, x0, x1, x2, x3, x4, x5, x6, x7, x8, x9, x10, y0, y1, y2, y3, y4, y5, y6, y7, y8, y9, y10, z0, z1, z2, z3, z4, z5, z6, z7, z8, z9, z10]) rfl ⟨hide rfl, ?_⟩
  repeat (first | (with_reducible exact hB) | (with_reducible exact Below.refl _ _) | (with_reducible refine Below.drew ?_) | ((with_reducible refine Below.setCell ?_ ?_ _); rotate_left; (focus (first | (simp; done) | (simp; omega)))) | ((with_reducible refine Below.alloc ?_ ?_ _); rotate_left; (focus (first | (simp; done) | (simp; omega)))))
set_option maxRecDepth 100000 in
set_option maxHeartbeats 4000000 in
theorem bare6_c (kd f v s a b c0 x y : Int) (cs : List ClaimT) (vs : List VoteT) (A B : Option Addr) (n c p d lo hi : Nat) (w : World) (hc : RdN 7 clR w lo hi A n c cs) (hv : RdN 2 voteR w lo hi B p d vs) (hhi : hi ≤ w.heap.size) :
    Calls Tryz.prog 43 #[.agg #[.int .i64 6, .int .i64 f, .int .i64 v, .int .i64 s, .int .i64 a, .int .i64 b, .int .i64 c0, .int .i64 x, .int .i64 y, .slice A n c, .slice B p d]] w fun e w' => Hid (e = .returned (.agg #[.int .i64 6, .int .i64 f, .int .i64 v, .int .i64 0, .int .i64 0, .int .i64 0, .int .i64 0, .int .i64 0, .int .i64 0, .slice none 0 0, .slice B p d])) ∧ Below w.heap.size w w' := by
  have hB : Below w.heap.size w (((w.alloc (.cells #[.int .i64 6, .int .i64 f, .int .i64 v, .int .i64 s, .int .i64 a, .int .i64 b, .int .i64 c0, .int .i64 x, .int .i64 y, .slice A n c, .slice B p d] 46)).alloc (.cells #[.int .i64 0, .int .i64 0, .int .i64 0, .int .i64 0, .int .i64 0, .int .i64 0, .int .i64 0, .int .i64 0, .int .i64 0, .slice none 0 0, .slice none 0 0] 46)).alloc (.cells #[.int .i64 6, .int .i64 0, .int .i64 0, .int .i64 0, .int .i64 0, .int .i64 0, .int .i64 0, .int .i64 0, .int .i64 0, .slice none 0 0, .slice none 0 0] 46)) := ((Below.refl _ _).alloc (Nat.le_refl _) _ |>.alloc (by simp) _).alloc (by simp; omega) _
  obtain ⟨t1, t2, t3, t4⟩ := heap3 w (.cells #[.int .i64 6, .int .i64 f, .int .i64 v, .int .i64 s, .int .i64 a, .int .i64 b, .int .i64 c0, .int .i64 x, .int .i64 y, .slice A n c, .slice B p d] 46) (.cells #[.int .i64 0, .int .i64 0, .int .i64 0, .int .i64 0, .int .i64 0, .int .i64 0, .int .i64 0, .int .i64 0, .int .i64 0, .slice none 0 0, .slice none 0 0] 46) (.cells #[.int .i64 6, .int .i64 0, .int .i64 0, .int .i64 0, .int .i64 0, .int .i64 0, .int .i64 0, .int .i64 0, .int .i64 0, .slice none 0 0, .slice none 0 0] 46)
  obtain ⟨x0, x1, x2, x3, x4, x5, x6, x7, x8, x9, x10⟩ := cell11 t1
  obtain ⟨z0, z1, z2, z3, z4, z5, z6, z7, z8, z9, z10⟩ := cell11 t2
  obtain ⟨zf0, zf1, zf2, zf3, zf4, zf5, zf6, zf7, zf8, zf9, zf10⟩ := frozen11 t2
  obtain ⟨y0, y1, y2, y3, y4, y5, y6, y7, y8, y9, y10⟩ := cell11 t3
  obtain ⟨yf0, yf1, yf2, yf3, yf4, yf5, yf6, yf7, yf8, yf9, yf10⟩ := frozen11 t3
  have hl : w.heap.size + 1 + 1 < (((w.alloc (.cells #[.int .i64 6, .int .i64 f, .int .i64 v, .int .i64 s, .int .i64 a, .int .i64 b, .int .i64 c0, .int .i64 x, .int .i64 y, .slice A n c, .slice B p d] 46)).alloc (.cells #[.int .i64 0, .int .i64 0, .int .i64 0, .int .i64 0, .int .i64 0, .int .i64 0, .int .i64 0, .int .i64 0, .int .i64 0, .slice none 0 0, .slice none 0 0] 46)).alloc (.cells #[.int .i64 6, .int .i64 0, .int .i64 0, .int .i64 0, .int .i64 0, .int .i64 0, .int .i64 0, .int .i64 0, .int .i64 0, .slice none 0 0, .slice none 0 0] 46)).heap.size := by rw [t4]; omega
  clear t1 t2 t3 t4
  go_enter Tryz.func43, Tryz.ntmps43
  go_wp2
  generalize (((w.alloc (.cells #[.int .i64 6, .int .i64 f, .int .i64 v, .int .i64 s, .int .i64 a, .int .i64 b, .int .i64 c0, .int .i64 x, .int .i64 y, .slice A n c, .slice B p d] 46)).alloc (.cells #[.int .i64 0, .int .i64 0, .int .i64 0, .int .i64 0, .int .i64 0, .int .i64 0, .int .i64 0, .int .i64 0, .int .i64 0, .slice none 0 0, .slice none 0 0] 46)).alloc (.cells #[.int .i64 6, .int .i64 0, .int .i64 0, .int .i64 0, .int .i64 0, .int .i64 0, .int .i64 0, .int .i64 0, .int .i64 0, .slice none 0 0, .slice none 0 0] 46)) = w3 at *
  have hst1 : Stays w.heap.size w3.heap[w.heap.size]? w3 := ⟨rfl⟩
  refine wp_region_T (Stays _ _) [46] [] [13] [0, 1, 2, 3, 4, 5, 6, 7] (by kernel_rfl) (by kernel_rfl) (by kernel_rfl) (Stays.drew hst1) ?_; simp only [pickL, List.getElem?_cons_succ, List.getElem?_cons_zero]
  go_wp2_with (first
    | ((refine no_implicit_lambda% (g9_ ?_)); intro hS) | ((refine no_implicit_lambda% (g8_ ?_)); intro K hK) | (refine no_implicit_lambda% (g1_ ?_)) | ((refine no_implicit_lambda% (g6_ ?_)); intro K hK) | (refine no_implicit_lambda% (g3_ ?_))
    | fail)
  refine bodyPost_ret (v := .agg #[.int .i64 6, .int .i64 f, .int .i64 v, .int .i64 0, .int .i64 0, .int .i64 0, .int .i64 0, .int .i64 0, .int .i64 0, .slice none 0 0, .slice B p d]) (by simp [results, Tryz.results43, go_sem, x0, x1, x2, x3, x4, x5, x6, x7, x8, x9, x10, y0, y1, y2, y3, y4, y5, y6, y7, y8, y9, y10, z0, z1, z2, z3, z4, z5, z6, z7, z8, z9, z10]) rfl ⟨hide rfl, ?_⟩
  repeat (first | (with_reducible exact hB) | (with_reducible exact Below.refl _ _) | (with_reducible refine Below.drew ?_) | ((with_reducible refine Below.setCell ?_ ?_ _); rotate_left; (focus (first | (simp; done) | (simp; omega)))) | ((with_reducible refine Below.alloc ?_ ?_ _); rotate_left; (focus (first | (simp; done) | (simp; omega)))))
end Go.Proofs.YtopmbnnjhoinkaaGreat
