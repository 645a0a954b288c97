/-
  Drawn letters: 'l20Msg'. (Printed by gen_nve.py.)
  Conditions: none.
-/
import Derived.Test.YtkmoefgnejhpoaaNVd
namespace Go.Proofs.Ytkmoefgnejhpoaa
open Go.RowKit Rg
set_option linter.unusedVariables false
set_option linter.unusedSimpArgs false

/-- What a drawn letter's slices are: claims alone, or votes alone. -/
def Drawn (w : World) (lo : Nat) (m : MsgT) (va vb : Value) : Prop :=
  (vb = .slice none 0 0 ∧ m.2.2.2.2.2.2 = [] ∧ Own encClaim 7 40 w lo va m.2.2.2.2.2.1 ∧ m.2.2.2.2.2.1.length ≤ 3) ∨
  (va = .slice none 0 0 ∧ m.2.2.2.2.2.1 = [] ∧ Grow 2 45 voteR w lo vb m.2.2.2.2.2.2 ∧ m.2.2.2.2.2.2.length ≤ 4 ∧ ∀ v ∈ m.2.2.2.2.2.2, v.2.length ≤ 3)
set_option maxRecDepth 100000 in
set_option maxHeartbeats 4000000 in
theorem l20Msg_c (g P : Nat) (w : World) (hr : Rd w g P) (hP : P ≤ 10000) :
    Calls Try.prog 28 #[.pointer (some ⟨g, 0, none⟩)] w fun e w' => ∃ (m : MsgT) (va vb : Value), e = .returned (.agg #[.int .i64 m.1, .int .i64 m.2.1, .int .i64 m.2.2.1, .int .i64 m.2.2.2.1, .int .i64 m.2.2.2.2.1.1, .int .i64 m.2.2.2.2.1.2.1, .int .i64 m.2.2.2.2.1.2.2.1, .int .i64 m.2.2.2.2.1.2.2.2.1, .int .i64 m.2.2.2.2.1.2.2.2.2, va, vb]) ∧ (0 ≤ m.2.2.1 ∧ m.2.2.1 ≤ 2) ∧ Drawn w' w.heap.size m va vb ∧ Rd w' g (P + 1100) ∧ Only w.heap.size (some g) w w' := by
  have hg := hr.lt
  have hb0 : Below w.heap.size w (w.alloc (.cells #[.int .i64 0, .int .i64 0, .int .i64 0, .int .i64 0, .int .i64 0, .int .i64 0, .int .i64 0, .int .i64 0, .int .i64 0, .slice none 0 0, .slice none 0 0] 28)) := (Below.refl _ _).alloc (Nat.le_refl _) _
  have hx0 : LBox (w.alloc (.cells #[.int .i64 0, .int .i64 0, .int .i64 0, .int .i64 0, .int .i64 0, .int .i64 0, .int .i64 0, .int .i64 0, .int .i64 0, .slice none 0 0, .slice none 0 0] 28)) w.heap.size (0, 0, 0, 0, (0, 0, 0, 0, 0), [], []) (.slice none 0 0) (.slice none 0 0) := heap_alloc_new w (.cells #[.int .i64 0, .int .i64 0, .int .i64 0, .int .i64 0, .int .i64 0, .int .i64 0, .int .i64 0, .int .i64 0, .int .i64 0, .slice none 0 0, .slice none 0 0] 28)
  have hr0 := hr.keep hb0
  have ho0 : Only w.heap.size (some g) w (w.alloc (.cells #[.int .i64 0, .int .i64 0, .int .i64 0, .int .i64 0, .int .i64 0, .int .i64 0, .int .i64 0, .int .i64 0, .int .i64 0, .slice none 0 0, .slice none 0 0] 28)) := Only.of_below hb0
  have hgb : some g ≠ some w.heap.size := by intro h; injection h with h; omega
  go_enter Try.func28, Try.ntmps28
  go_wp2_with fail
  generalize w.alloc (.cells #[.int .i64 0, .int .i64 0, .int .i64 0, .int .i64 0, .int .i64 0, .int .i64 0, .int .i64 0, .int .i64 0, .int .i64 0, .slice none 0 0, .slice none 0 0] 28) = w0 at *
  refine (pick_c g _ 6 w0 hr0 (by omega) (by omega)).mono ?_
  rintro e w1 ⟨k1, rfl, hk1, hr1, h1⟩
  have hx1 := hx0.only h1 hgb
  have ho1 := ho0.trans (h1.mono ho0.size)
  have hk1' : k1 ≤ 5 := by have := hk1.1 (by omega); omega
  clear hk1 h1
  go_wp2_with fail
  refine (pick_c g _ 4 w1 hr1 (by omega) (by omega)).mono ?_
  rintro e w2 ⟨k2, rfl, hk2, hr2, h2⟩
  have hx2 := hx1.only h2 hgb
  have ho2 := ho1.trans (h2.mono ho1.size)
  clear hk2 h2
  go_wp2_with fail
  refine (pick_c g _ 3 w2 hr2 (by omega) (by omega)).mono ?_
  rintro e w3 ⟨k3, rfl, hk3, hr3, h3⟩
  have hx3 := hx2.only h3 hgb
  have ho3 := ho2.trans (h3.mono ho2.size)
  have hk3' : (k3 : Int) ≤ 2 := by have := hk3.1 (by omega); omega
  have hk3n : (0 : Int) ≤ (k3 : Int) := by omega
  have hA := (Below.refl w3.heap.size w3).alloc (Nat.le_refl _) (.cells #[.int .i64 (1 + (k1 : Int)), .int .i64 (k2 : Int), .int .i64 (k3 : Int), .int .i64 0, .int .i64 0, .int .i64 0, .int .i64 0, .int .i64 0, .int .i64 0, .slice none 0 0, .slice none 0 0] 28)
  have hy4 : LBox (w3.alloc (.cells #[.int .i64 (1 + (k1 : Int)), .int .i64 (k2 : Int), .int .i64 (k3 : Int), .int .i64 0, .int .i64 0, .int .i64 0, .int .i64 0, .int .i64 0, .int .i64 0, .slice none 0 0, .slice none 0 0] 28)) w3.heap.size (1 + (k1 : Int), (k2 : Int), (k3 : Int), 0, (0, 0, 0, 0, 0), [], []) (.slice none 0 0) (.slice none 0 0) := heap_alloc_new w3 (.cells #[.int .i64 (1 + (k1 : Int)), .int .i64 (k2 : Int), .int .i64 (k3 : Int), .int .i64 0, .int .i64 0, .int .i64 0, .int .i64 0, .int .i64 0, .int .i64 0, .slice none 0 0, .slice none 0 0] 28)
  have hx4 := hx3.below hA hx3.lt
  have hr4 := hr3.keep hA
  have ho4 := ho3.trans ((Only.of_below hA).mono ho3.size)
  have hgy : some g ≠ some w3.heap.size := by intro h; injection h with h; have := hr3.lt; omega
  have hwn : w.heap.size < w3.heap.size := hx3.lt
  have hgw3 : g < w3.heap.size := hr3.lt
  clear hk3 h3 hr0 hr1 hr2 hr3 hx0 hx1 hx2 hx3 ho0 ho1 ho2 ho3 hA hb0 hr
  obtain ⟨x0, x1, x2, x3, x4, x5, x6, x7, x8, x9, x10, xf0, xf1, xf2, xf3, xf4, xf5, xf6, xf7, xf8, xf9, xf10⟩ := hx4.cells
  obtain ⟨y0, y1, y2, y3, y4, y5, y6, y7, y8, y9, y10, yf0, yf1, yf2, yf3, yf4, yf5, yf6, yf7, yf8, yf9, yf10⟩ := hy4.cells
  have hlx := hx4.lt
  have hly := hy4.lt
  rcases (show k1 = 0 ∨ k1 = 1 ∨ k1 = 2 ∨ k1 = 3 ∨ k1 = 4 ∨ k1 = 5 by omega) with h0 | h0 | h0 | h0 | h0 | h0
  · have d1 : ((1 + (k1 : Int)) == 1) = true := by rw [h0]; decide
    have d2 : ((1 + (k1 : Int)) == 2) = false := by rw [h0]; decide
    have d3 : ((1 + (k1 : Int)) == 3) = false := by rw [h0]; decide
    have d4 : ((1 + (k1 : Int)) == 4) = false := by rw [h0]; decide
    have d5 : ((1 + (k1 : Int)) == 5) = false := by rw [h0]; decide
    have d6 : ((1 + (k1 : Int)) == 6) = false := by rw [h0]; decide
    clear h0
    go_wp2_with fail
    generalize w3.alloc (.cells #[.int .i64 (1 + (k1 : Int)), .int .i64 (k2 : Int), .int .i64 (k3 : Int), .int .i64 0, .int .i64 0, .int .i64 0, .int .i64 0, .int .i64 0, .int .i64 0, .slice none 0 0, .slice none 0 0] 28) = w4 at *
    refine (l20Req_c g _ w4 hr4 (by omega)).mono ?_
    rintro e w5 ⟨t, rfl, _, hr5, h5⟩
    have hx5 := hx4.only h5 hgb
    have ho5 := ho4.trans (h5.mono ho4.size)
    obtain ⟨x0, x1, x2, x3, x4, x5, x6, x7, x8, x9, x10, xf0, xf1, xf2, xf3, xf4, xf5, xf6, xf7, xf8, xf9, xf10⟩ := hx5.cells
    go_wp2
    exact bodyPost_ret (v := .agg #[.int .i64 1, .int .i64 0, .int .i64 0, .int .i64 0, .int .i64 t.1, .int .i64 t.2.1, .int .i64 t.2.2.1, .int .i64 t.2.2.2.1, .int .i64 t.2.2.2.2, .slice none 0 0, .slice none 0 0]) (by simp [results, Try.results28, go_sem, x0, x1, x2, x3, x4, x5, x6, x7, x8, x9, x10, xf0, xf1, xf2, xf3, xf4, xf5, xf6, xf7, xf8, xf9, xf10]) rfl ⟨(1, 0, 0, 0, t, [], []), (.slice none 0 0), (.slice none 0 0), rfl, ⟨by simp, by simp⟩, .inl ⟨rfl, rfl, Own.nil_ _ _ _ _ _, by simp⟩, (finN (j := 0) [.int .i64 1, .int .i64 0, .int .i64 0, .int .i64 0, .int .i64 t.1, .int .i64 t.2.1, .int .i64 t.2.2.1, .int .i64 t.2.2.2.1, .int .i64 t.2.2.2.2, .slice none 0 0, .slice none 0 0] hg (Nat.le_refl _) hr5 ho5).1.mono (by omega), (finN (j := 0) [.int .i64 1, .int .i64 0, .int .i64 0, .int .i64 0, .int .i64 t.1, .int .i64 t.2.1, .int .i64 t.2.2.1, .int .i64 t.2.2.2.1, .int .i64 t.2.2.2.2, .slice none 0 0, .slice none 0 0] hg (Nat.le_refl _) hr5 ho5).2⟩
  · have d1 : ((1 + (k1 : Int)) == 1) = false := by rw [h0]; decide
    have d2 : ((1 + (k1 : Int)) == 2) = true := by rw [h0]; decide
    have d3 : ((1 + (k1 : Int)) == 3) = false := by rw [h0]; decide
    have d4 : ((1 + (k1 : Int)) == 4) = false := by rw [h0]; decide
    have d5 : ((1 + (k1 : Int)) == 5) = false := by rw [h0]; decide
    have d6 : ((1 + (k1 : Int)) == 6) = false := by rw [h0]; decide
    clear h0
    go_wp2_with fail
    generalize w3.alloc (.cells #[.int .i64 (1 + (k1 : Int)), .int .i64 (k2 : Int), .int .i64 (k3 : Int), .int .i64 0, .int .i64 0, .int .i64 0, .int .i64 0, .int .i64 0, .int .i64 0, .slice none 0 0, .slice none 0 0] 28) = w4 at *
    refine (pick_c g _ 3 w4 hr4 (by omega) (by omega)).mono ?_
    rintro e w5 ⟨k5, rfl, hk5, hr5, h5⟩
    have hx5 := hx4.only h5 hgb
    have hy5 := hy4.only h5 hgy
    have ho5 := ho4.trans (h5.mono ho4.size)
    have hk5' : (k5 : Int) ≤ 2 := by have := hk5.1 (by omega); omega
    clear hk5 h5
    obtain ⟨x0, x1, x2, x3, x4, x5, x6, x7, x8, x9, x10, xf0, xf1, xf2, xf3, xf4, xf5, xf6, xf7, xf8, xf9, xf10⟩ := hx5.cells
    obtain ⟨y0, y1, y2, y3, y4, y5, y6, y7, y8, y9, y10, yf0, yf1, yf2, yf3, yf4, yf5, yf6, yf7, yf8, yf9, yf10⟩ := hy5.cells
    have f5 := finN (j := 3) [.int .i64 (1 + (k5 : Int))] hgw3 (Nat.le_of_lt hwn) hr5 ho5
    have hx6 : LBox (w5.setCell ⟨w3.heap.size, 3, none⟩ (.int .i64 (1 + (k5 : Int)))) w.heap.size (0, 0, 0, 0, (0, 0, 0, 0, 0), [], []) (.slice none 0 0) (.slice none 0 0) := hx5.other (by omega) _
    have hy6 : LBox (w5.setCell ⟨w3.heap.size, 3, none⟩ (.int .i64 (1 + (k5 : Int)))) w3.heap.size ((1 + (k1 : Int)), (k2 : Int), (k3 : Int), 1 + (k5 : Int), (0, 0, 0, 0, 0), [], []) (.slice none 0 0) (.slice none 0 0) := by
      have h' : w5.heap[w3.heap.size]? = _ := hy5
      simp [LBox, World.setCell, Array.getElem?_modify, h']
    go_wp2_with fail
    have f5' : Rd (w5.setCell ⟨w3.heap.size, 3, none⟩ (.int .i64 (1 + (k5 : Int)))) g _ ∧ Only w.heap.size (some g) w (w5.setCell ⟨w3.heap.size, 3, none⟩ (.int .i64 (1 + (k5 : Int)))) := f5
    generalize (w5.setCell ⟨w3.heap.size, 3, none⟩ (.int .i64 (1 + (k5 : Int)))) = w6 at *
    refine (l20Req_c g _ w6 f5'.1 (by omega)).mono ?_
    rintro e w7 ⟨t, rfl, _, hr7, h7⟩
    have hx7 := hx6.only h7 hgb
    have hy7 := hy6.only h7 hgy
    have ho7 := f5'.2.trans (h7.mono f5'.2.size)
    obtain ⟨x0, x1, x2, x3, x4, x5, x6, x7, x8, x9, x10, xf0, xf1, xf2, xf3, xf4, xf5, xf6, xf7, xf8, xf9, xf10⟩ := hx7.cells
    obtain ⟨y0, y1, y2, y3, y4, y5, y6, y7, y8, y9, y10, yf0, yf1, yf2, yf3, yf4, yf5, yf6, yf7, yf8, yf9, yf10⟩ := hy7.cells
    have f7 := finN (j := 4) [.int .i64 t.1, .int .i64 t.2.1, .int .i64 t.2.2.1, .int .i64 t.2.2.2.1, .int .i64 t.2.2.2.2] hgw3 (Nat.le_of_lt hwn) hr7 ho7
    go_wp2
    exact bodyPost_ret (v := .agg #[.int .i64 (1 + (k1 : Int)), .int .i64 (k2 : Int), .int .i64 (k3 : Int), .int .i64 (1 + (k5 : Int)), .int .i64 t.1, .int .i64 t.2.1, .int .i64 t.2.2.1, .int .i64 t.2.2.2.1, .int .i64 t.2.2.2.2, .slice none 0 0, .slice none 0 0]) (by simp [results, Try.results28, go_sem, x0, x1, x2, x3, x4, x5, x6, x7, x8, x9, x10, xf0, xf1, xf2, xf3, xf4, xf5, xf6, xf7, xf8, xf9, xf10, y0, y1, y2, y3, y4, y5, y6, y7, y8, y9, y10, yf0, yf1, yf2, yf3, yf4, yf5, yf6, yf7, yf8, yf9, yf10]) rfl ⟨((1 + (k1 : Int)), (k2 : Int), (k3 : Int), 1 + (k5 : Int), t, [], []), (.slice none 0 0), (.slice none 0 0), rfl, ⟨hk3n, hk3'⟩, .inl ⟨rfl, rfl, Own.nil_ _ _ _ _ _, by simp⟩, (finN (j := 0) [.int .i64 (1 + (k1 : Int)), .int .i64 (k2 : Int), .int .i64 (k3 : Int), .int .i64 (1 + (k5 : Int)), .int .i64 t.1, .int .i64 t.2.1, .int .i64 t.2.2.1, .int .i64 t.2.2.2.1, .int .i64 t.2.2.2.2, .slice none 0 0, .slice none 0 0] hg (Nat.le_refl _) f7.1 f7.2).1.mono (by omega), (finN (j := 0) [.int .i64 (1 + (k1 : Int)), .int .i64 (k2 : Int), .int .i64 (k3 : Int), .int .i64 (1 + (k5 : Int)), .int .i64 t.1, .int .i64 t.2.1, .int .i64 t.2.2.1, .int .i64 t.2.2.2.1, .int .i64 t.2.2.2.2, .slice none 0 0, .slice none 0 0] hg (Nat.le_refl _) f7.1 f7.2).2⟩
  · have d1 : ((1 + (k1 : Int)) == 1) = false := by rw [h0]; decide
    have d2 : ((1 + (k1 : Int)) == 2) = false := by rw [h0]; decide
    have d3 : ((1 + (k1 : Int)) == 3) = true := by rw [h0]; decide
    have d4 : ((1 + (k1 : Int)) == 4) = false := by rw [h0]; decide
    have d5 : ((1 + (k1 : Int)) == 5) = false := by rw [h0]; decide
    have d6 : ((1 + (k1 : Int)) == 6) = false := by rw [h0]; decide
    clear h0
    go_wp2_with fail
    generalize w3.alloc (.cells #[.int .i64 (1 + (k1 : Int)), .int .i64 (k2 : Int), .int .i64 (k3 : Int), .int .i64 0, .int .i64 0, .int .i64 0, .int .i64 0, .int .i64 0, .int .i64 0, .slice none 0 0, .slice none 0 0] 28) = w4 at *
    refine (pick_c g _ 3 w4 hr4 (by omega) (by omega)).mono ?_
    rintro e w5 ⟨k5, rfl, hk5, hr5, h5⟩
    have hx5 := hx4.only h5 hgb
    have hy5 := hy4.only h5 hgy
    have ho5 := ho4.trans (h5.mono ho4.size)
    have hk5' : (k5 : Int) ≤ 2 := by have := hk5.1 (by omega); omega
    clear hk5 h5
    obtain ⟨x0, x1, x2, x3, x4, x5, x6, x7, x8, x9, x10, xf0, xf1, xf2, xf3, xf4, xf5, xf6, xf7, xf8, xf9, xf10⟩ := hx5.cells
    obtain ⟨y0, y1, y2, y3, y4, y5, y6, y7, y8, y9, y10, yf0, yf1, yf2, yf3, yf4, yf5, yf6, yf7, yf8, yf9, yf10⟩ := hy5.cells
    have f5 := finN (j := 3) [.int .i64 (1 + (k5 : Int))] hgw3 (Nat.le_of_lt hwn) hr5 ho5
    have hx6 : LBox (w5.setCell ⟨w3.heap.size, 3, none⟩ (.int .i64 (1 + (k5 : Int)))) w.heap.size (0, 0, 0, 0, (0, 0, 0, 0, 0), [], []) (.slice none 0 0) (.slice none 0 0) := hx5.other (by omega) _
    have hy6 : LBox (w5.setCell ⟨w3.heap.size, 3, none⟩ (.int .i64 (1 + (k5 : Int)))) w3.heap.size ((1 + (k1 : Int)), (k2 : Int), (k3 : Int), 1 + (k5 : Int), (0, 0, 0, 0, 0), [], []) (.slice none 0 0) (.slice none 0 0) := by
      have h' : w5.heap[w3.heap.size]? = _ := hy5
      simp [LBox, World.setCell, Array.getElem?_modify, h']
    go_wp2_with fail
    have f5' : Rd (w5.setCell ⟨w3.heap.size, 3, none⟩ (.int .i64 (1 + (k5 : Int)))) g _ ∧ Only w.heap.size (some g) w (w5.setCell ⟨w3.heap.size, 3, none⟩ (.int .i64 (1 + (k5 : Int)))) := f5
    generalize (w5.setCell ⟨w3.heap.size, 3, none⟩ (.int .i64 (1 + (k5 : Int)))) = w6 at *
    refine (l20Req_c g _ w6 f5'.1 (by omega)).mono ?_
    rintro e w7 ⟨t, rfl, _, hr7, h7⟩
    have hx7 := hx6.only h7 hgb
    have hy7 := hy6.only h7 hgy
    have ho7 := f5'.2.trans (h7.mono f5'.2.size)
    obtain ⟨x0, x1, x2, x3, x4, x5, x6, x7, x8, x9, x10, xf0, xf1, xf2, xf3, xf4, xf5, xf6, xf7, xf8, xf9, xf10⟩ := hx7.cells
    obtain ⟨y0, y1, y2, y3, y4, y5, y6, y7, y8, y9, y10, yf0, yf1, yf2, yf3, yf4, yf5, yf6, yf7, yf8, yf9, yf10⟩ := hy7.cells
    have f7 := finN (j := 4) [.int .i64 t.1, .int .i64 t.2.1, .int .i64 t.2.2.1, .int .i64 t.2.2.2.1, .int .i64 t.2.2.2.2] hgw3 (Nat.le_of_lt hwn) hr7 ho7
    go_wp2
    exact bodyPost_ret (v := .agg #[.int .i64 (1 + (k1 : Int)), .int .i64 (k2 : Int), .int .i64 (k3 : Int), .int .i64 (1 + (k5 : Int)), .int .i64 t.1, .int .i64 t.2.1, .int .i64 t.2.2.1, .int .i64 t.2.2.2.1, .int .i64 t.2.2.2.2, .slice none 0 0, .slice none 0 0]) (by simp [results, Try.results28, go_sem, x0, x1, x2, x3, x4, x5, x6, x7, x8, x9, x10, xf0, xf1, xf2, xf3, xf4, xf5, xf6, xf7, xf8, xf9, xf10, y0, y1, y2, y3, y4, y5, y6, y7, y8, y9, y10, yf0, yf1, yf2, yf3, yf4, yf5, yf6, yf7, yf8, yf9, yf10]) rfl ⟨((1 + (k1 : Int)), (k2 : Int), (k3 : Int), 1 + (k5 : Int), t, [], []), (.slice none 0 0), (.slice none 0 0), rfl, ⟨hk3n, hk3'⟩, .inl ⟨rfl, rfl, Own.nil_ _ _ _ _ _, by simp⟩, (finN (j := 0) [.int .i64 (1 + (k1 : Int)), .int .i64 (k2 : Int), .int .i64 (k3 : Int), .int .i64 (1 + (k5 : Int)), .int .i64 t.1, .int .i64 t.2.1, .int .i64 t.2.2.1, .int .i64 t.2.2.2.1, .int .i64 t.2.2.2.2, .slice none 0 0, .slice none 0 0] hg (Nat.le_refl _) f7.1 f7.2).1.mono (by omega), (finN (j := 0) [.int .i64 (1 + (k1 : Int)), .int .i64 (k2 : Int), .int .i64 (k3 : Int), .int .i64 (1 + (k5 : Int)), .int .i64 t.1, .int .i64 t.2.1, .int .i64 t.2.2.1, .int .i64 t.2.2.2.1, .int .i64 t.2.2.2.2, .slice none 0 0, .slice none 0 0] hg (Nat.le_refl _) f7.1 f7.2).2⟩
  · have d1 : ((1 + (k1 : Int)) == 1) = false := by rw [h0]; decide
    have d2 : ((1 + (k1 : Int)) == 2) = false := by rw [h0]; decide
    have d3 : ((1 + (k1 : Int)) == 3) = false := by rw [h0]; decide
    have d4 : ((1 + (k1 : Int)) == 4) = true := by rw [h0]; decide
    have d5 : ((1 + (k1 : Int)) == 5) = false := by rw [h0]; decide
    have d6 : ((1 + (k1 : Int)) == 6) = false := by rw [h0]; decide
    clear h0
    go_wp2_with fail
    generalize w3.alloc (.cells #[.int .i64 (1 + (k1 : Int)), .int .i64 (k2 : Int), .int .i64 (k3 : Int), .int .i64 0, .int .i64 0, .int .i64 0, .int .i64 0, .int .i64 0, .int .i64 0, .slice none 0 0, .slice none 0 0] 28) = w4 at *
    refine (pick_c g _ 3 w4 hr4 (by omega) (by omega)).mono ?_
    rintro e w5 ⟨k5, rfl, hk5, hr5, h5⟩
    have hx5 := hx4.only h5 hgb
    have hy5 := hy4.only h5 hgy
    have ho5 := ho4.trans (h5.mono ho4.size)
    have hk5' : (k5 : Int) ≤ 2 := by have := hk5.1 (by omega); omega
    clear hk5 h5
    obtain ⟨x0, x1, x2, x3, x4, x5, x6, x7, x8, x9, x10, xf0, xf1, xf2, xf3, xf4, xf5, xf6, xf7, xf8, xf9, xf10⟩ := hx5.cells
    obtain ⟨y0, y1, y2, y3, y4, y5, y6, y7, y8, y9, y10, yf0, yf1, yf2, yf3, yf4, yf5, yf6, yf7, yf8, yf9, yf10⟩ := hy5.cells
    have f5 := finN (j := 3) [.int .i64 (1 + (k5 : Int))] hgw3 (Nat.le_of_lt hwn) hr5 ho5
    have hx6 : LBox (w5.setCell ⟨w3.heap.size, 3, none⟩ (.int .i64 (1 + (k5 : Int)))) w.heap.size (0, 0, 0, 0, (0, 0, 0, 0, 0), [], []) (.slice none 0 0) (.slice none 0 0) := hx5.other (by omega) _
    have hy6 : LBox (w5.setCell ⟨w3.heap.size, 3, none⟩ (.int .i64 (1 + (k5 : Int)))) w3.heap.size ((1 + (k1 : Int)), (k2 : Int), (k3 : Int), 1 + (k5 : Int), (0, 0, 0, 0, 0), [], []) (.slice none 0 0) (.slice none 0 0) := by
      have h' : w5.heap[w3.heap.size]? = _ := hy5
      simp [LBox, World.setCell, Array.getElem?_modify, h']
    go_wp2_with fail
    have f5' : Rd (w5.setCell ⟨w3.heap.size, 3, none⟩ (.int .i64 (1 + (k5 : Int)))) g _ ∧ Only w.heap.size (some g) w (w5.setCell ⟨w3.heap.size, 3, none⟩ (.int .i64 (1 + (k5 : Int)))) := f5
    generalize (w5.setCell ⟨w3.heap.size, 3, none⟩ (.int .i64 (1 + (k5 : Int)))) = w6 at *
    refine (l20Req_c g _ w6 f5'.1 (by omega)).mono ?_
    rintro e w7 ⟨t, rfl, _, hr7, h7⟩
    have hx7 := hx6.only h7 hgb
    have hy7 := hy6.only h7 hgy
    have ho7 := f5'.2.trans (h7.mono f5'.2.size)
    obtain ⟨x0, x1, x2, x3, x4, x5, x6, x7, x8, x9, x10, xf0, xf1, xf2, xf3, xf4, xf5, xf6, xf7, xf8, xf9, xf10⟩ := hx7.cells
    obtain ⟨y0, y1, y2, y3, y4, y5, y6, y7, y8, y9, y10, yf0, yf1, yf2, yf3, yf4, yf5, yf6, yf7, yf8, yf9, yf10⟩ := hy7.cells
    have f7 := finN (j := 4) [.int .i64 t.1, .int .i64 t.2.1, .int .i64 t.2.2.1, .int .i64 t.2.2.2.1, .int .i64 t.2.2.2.2] hgw3 (Nat.le_of_lt hwn) hr7 ho7
    go_wp2
    exact bodyPost_ret (v := .agg #[.int .i64 (1 + (k1 : Int)), .int .i64 (k2 : Int), .int .i64 (k3 : Int), .int .i64 (1 + (k5 : Int)), .int .i64 t.1, .int .i64 t.2.1, .int .i64 t.2.2.1, .int .i64 t.2.2.2.1, .int .i64 t.2.2.2.2, .slice none 0 0, .slice none 0 0]) (by simp [results, Try.results28, go_sem, x0, x1, x2, x3, x4, x5, x6, x7, x8, x9, x10, xf0, xf1, xf2, xf3, xf4, xf5, xf6, xf7, xf8, xf9, xf10, y0, y1, y2, y3, y4, y5, y6, y7, y8, y9, y10, yf0, yf1, yf2, yf3, yf4, yf5, yf6, yf7, yf8, yf9, yf10]) rfl ⟨((1 + (k1 : Int)), (k2 : Int), (k3 : Int), 1 + (k5 : Int), t, [], []), (.slice none 0 0), (.slice none 0 0), rfl, ⟨hk3n, hk3'⟩, .inl ⟨rfl, rfl, Own.nil_ _ _ _ _ _, by simp⟩, (finN (j := 0) [.int .i64 (1 + (k1 : Int)), .int .i64 (k2 : Int), .int .i64 (k3 : Int), .int .i64 (1 + (k5 : Int)), .int .i64 t.1, .int .i64 t.2.1, .int .i64 t.2.2.1, .int .i64 t.2.2.2.1, .int .i64 t.2.2.2.2, .slice none 0 0, .slice none 0 0] hg (Nat.le_refl _) f7.1 f7.2).1.mono (by omega), (finN (j := 0) [.int .i64 (1 + (k1 : Int)), .int .i64 (k2 : Int), .int .i64 (k3 : Int), .int .i64 (1 + (k5 : Int)), .int .i64 t.1, .int .i64 t.2.1, .int .i64 t.2.2.1, .int .i64 t.2.2.2.1, .int .i64 t.2.2.2.2, .slice none 0 0, .slice none 0 0] hg (Nat.le_refl _) f7.1 f7.2).2⟩
  · have d1 : ((1 + (k1 : Int)) == 1) = false := by rw [h0]; decide
    have d2 : ((1 + (k1 : Int)) == 2) = false := by rw [h0]; decide
    have d3 : ((1 + (k1 : Int)) == 3) = false := by rw [h0]; decide
    have d4 : ((1 + (k1 : Int)) == 4) = false := by rw [h0]; decide
    have d5 : ((1 + (k1 : Int)) == 5) = true := by rw [h0]; decide
    have d6 : ((1 + (k1 : Int)) == 6) = false := by rw [h0]; decide
    clear h0
    go_wp2_with fail
    generalize w3.alloc (.cells #[.int .i64 (1 + (k1 : Int)), .int .i64 (k2 : Int), .int .i64 (k3 : Int), .int .i64 0, .int .i64 0, .int .i64 0, .int .i64 0, .int .i64 0, .int .i64 0, .slice none 0 0, .slice none 0 0] 28) = w4 at *
    refine (l20Claims_c g _ w4 hr4 (by omega)).mono ?_
    rintro e w5 ⟨vc, cs, rfl, hcl, hwc, hr5, h5⟩
    have hx5 := hx4.only h5 hgb
    have hy5 := hy4.only h5 hgy
    have ho5 := ho4.trans (h5.mono ho4.size)
    obtain ⟨Ac, cc, rfl, _, hcc, _⟩ := hwc.form
    unfold maxLen at hcc
    obtain ⟨x0, x1, x2, x3, x4, x5, x6, x7, x8, x9, x10, xf0, xf1, xf2, xf3, xf4, xf5, xf6, xf7, xf8, xf9, xf10⟩ := hx5.cells
    obtain ⟨y0, y1, y2, y3, y4, y5, y6, y7, y8, y9, y10, yf0, yf1, yf2, yf3, yf4, yf5, yf6, yf7, yf8, yf9, yf10⟩ := hy5.cells
    have f5 := finN (j := 9) [.slice Ac cs.length cc] hgw3 (Nat.le_of_lt hwn) hr5 ho5
    have hkp := hide (fun k (h1 : k ≠ w3.heap.size) (h2 : k ≠ w.heap.size) => keep2 w5 w3.heap.size w.heap.size 9 (.slice Ac cs.length cc) [.int .i64 (1 + (k1 : Int)), .int .i64 (k2 : Int), .int .i64 (k3 : Int), .int .i64 0, .int .i64 0, .int .i64 0, .int .i64 0, .int .i64 0, .int .i64 0, .slice Ac cs.length cc, .slice none 0 0] k h1 h2)
    have hwc' := hide hwc
    clear hwc
    go_wp2
    exact bodyPost_ret (v := .agg #[.int .i64 (1 + (k1 : Int)), .int .i64 (k2 : Int), .int .i64 (k3 : Int), .int .i64 0, .int .i64 0, .int .i64 0, .int .i64 0, .int .i64 0, .int .i64 0, .slice Ac cs.length cc, .slice none 0 0]) (by simp [results, Try.results28, go_sem, x0, x1, x2, x3, x4, x5, x6, x7, x8, x9, x10, xf0, xf1, xf2, xf3, xf4, xf5, xf6, xf7, xf8, xf9, xf10, y0, y1, y2, y3, y4, y5, y6, y7, y8, y9, y10, yf0, yf1, yf2, yf3, yf4, yf5, yf6, yf7, yf8, yf9, yf10]) rfl ⟨((1 + (k1 : Int)), (k2 : Int), (k3 : Int), 0, (0, 0, 0, 0, 0), cs, []), _, (.slice none 0 0), rfl, ⟨hk3n, hk3'⟩, .inl ⟨rfl, rfl, (hwc'.out.keep (fun b hb => hkp.out b (by have := (hwc'.out.lt b hb).1; omega) (by have := (hwc'.out.lt b hb).1; omega))).mono (by omega), hcl⟩, (finN (j := 0) [.int .i64 (1 + (k1 : Int)), .int .i64 (k2 : Int), .int .i64 (k3 : Int), .int .i64 0, .int .i64 0, .int .i64 0, .int .i64 0, .int .i64 0, .int .i64 0, .slice Ac cs.length cc, .slice none 0 0] hg (Nat.le_refl _) f5.1 f5.2).1.mono (by omega), (finN (j := 0) [.int .i64 (1 + (k1 : Int)), .int .i64 (k2 : Int), .int .i64 (k3 : Int), .int .i64 0, .int .i64 0, .int .i64 0, .int .i64 0, .int .i64 0, .int .i64 0, .slice Ac cs.length cc, .slice none 0 0] hg (Nat.le_refl _) f5.1 f5.2).2⟩
  · have d1 : ((1 + (k1 : Int)) == 1) = false := by rw [h0]; decide
    have d2 : ((1 + (k1 : Int)) == 2) = false := by rw [h0]; decide
    have d3 : ((1 + (k1 : Int)) == 3) = false := by rw [h0]; decide
    have d4 : ((1 + (k1 : Int)) == 4) = false := by rw [h0]; decide
    have d5 : ((1 + (k1 : Int)) == 5) = false := by rw [h0]; decide
    have d6 : ((1 + (k1 : Int)) == 6) = true := by rw [h0]; decide
    clear h0
    go_wp2_with fail
    generalize w3.alloc (.cells #[.int .i64 (1 + (k1 : Int)), .int .i64 (k2 : Int), .int .i64 (k3 : Int), .int .i64 0, .int .i64 0, .int .i64 0, .int .i64 0, .int .i64 0, .int .i64 0, .slice none 0 0, .slice none 0 0] 28) = w4 at *
    refine (l20Votes_c g _ w4 hr4 (by omega)).mono ?_
    rintro e w5 ⟨vv, vs, rfl, hvl, hgv, hr5, h5, hsm⟩
    have hx5 := hx4.only h5 hgb
    have hy5 := hy4.only h5 hgy
    have ho5 := ho4.trans (h5.mono ho4.size)
    obtain ⟨Av, cv, rfl, _, hcv, _⟩ := hgv.form
    unfold maxLen at hcv
    obtain ⟨x0, x1, x2, x3, x4, x5, x6, x7, x8, x9, x10, xf0, xf1, xf2, xf3, xf4, xf5, xf6, xf7, xf8, xf9, xf10⟩ := hx5.cells
    obtain ⟨y0, y1, y2, y3, y4, y5, y6, y7, y8, y9, y10, yf0, yf1, yf2, yf3, yf4, yf5, yf6, yf7, yf8, yf9, yf10⟩ := hy5.cells
    have f5 := finN (j := 10) [.slice Av vs.length cv] hgw3 (Nat.le_of_lt hwn) hr5 ho5
    have hkp := hide (fun k (h1 : k ≠ w3.heap.size) (h2 : k ≠ w.heap.size) => keep2 w5 w3.heap.size w.heap.size 10 (.slice Av vs.length cv) [.int .i64 (1 + (k1 : Int)), .int .i64 (k2 : Int), .int .i64 (k3 : Int), .int .i64 0, .int .i64 0, .int .i64 0, .int .i64 0, .int .i64 0, .int .i64 0, .slice none 0 0, .slice Av vs.length cv] k h1 h2)
    have hgv' := hide hgv
    have hsm' := hide hsm
    clear hgv hsm
    go_wp2
    exact bodyPost_ret (v := .agg #[.int .i64 (1 + (k1 : Int)), .int .i64 (k2 : Int), .int .i64 (k3 : Int), .int .i64 0, .int .i64 0, .int .i64 0, .int .i64 0, .int .i64 0, .int .i64 0, .slice none 0 0, .slice Av vs.length cv]) (by simp [results, Try.results28, go_sem, x0, x1, x2, x3, x4, x5, x6, x7, x8, x9, x10, xf0, xf1, xf2, xf3, xf4, xf5, xf6, xf7, xf8, xf9, xf10, y0, y1, y2, y3, y4, y5, y6, y7, y8, y9, y10, yf0, yf1, yf2, yf3, yf4, yf5, yf6, yf7, yf8, yf9, yf10]) rfl ⟨((1 + (k1 : Int)), (k2 : Int), (k3 : Int), 0, (0, 0, 0, 0, 0), [], vs), (.slice none 0 0), _, rfl, ⟨hk3n, hk3'⟩, .inr ⟨rfl, rfl, (hgv'.out.keep vote_kept (Nat.le_of_eq (size2 w5 w3.heap.size w.heap.size 10 (.slice Av vs.length cv) [.int .i64 (1 + (k1 : Int)), .int .i64 (k2 : Int), .int .i64 (k3 : Int), .int .i64 0, .int .i64 0, .int .i64 0, .int .i64 0, .int .i64 0, .int .i64 0, .slice none 0 0, .slice Av vs.length cv]).symm) (fun b h1 h2 => hkp.out b (by omega) (by omega))).mono vote_kept (by omega), hvl, hsm'.out⟩, (finN (j := 0) [.int .i64 (1 + (k1 : Int)), .int .i64 (k2 : Int), .int .i64 (k3 : Int), .int .i64 0, .int .i64 0, .int .i64 0, .int .i64 0, .int .i64 0, .int .i64 0, .slice none 0 0, .slice Av vs.length cv] hg (Nat.le_refl _) f5.1 f5.2).1.mono (by omega), (finN (j := 0) [.int .i64 (1 + (k1 : Int)), .int .i64 (k2 : Int), .int .i64 (k3 : Int), .int .i64 0, .int .i64 0, .int .i64 0, .int .i64 0, .int .i64 0, .int .i64 0, .slice none 0 0, .slice Av vs.length cv] hg (Nat.le_refl _) f5.1 f5.2).2⟩
end Go.Proofs.Ytkmoefgnejhpoaa
