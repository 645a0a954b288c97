/-
  What 'FVd' rests on (texts of this seat put together: NVq).
  Conditions: none.
-/
import Derived.Test.YtopmbnnjhoinkaaVV2
namespace Go.Proofs.Ytopmbnnjhoinkaa
open Go.RowKit Rg
set_option linter.unusedVariables false
set_option linter.unusedSimpArgs false
set_option maxHeartbeats 1000000
theorem frozen_blk5 {w w' : World} {b j : Nat} (h : w'.heap[b]? = w.heap[b]?) : w'.frozen? ⟨b, j, none⟩ = w.frozen? ⟨b, j, none⟩ := by simp [World.frozen?, h]
def Box5 (w : World) (b : Nat) (x0 x1 x2 x3 x4 : Int) : Prop := w.cell? ⟨b, 0, none⟩ = some (.int .i64 x0) ∧ w.cell? ⟨b, 1, none⟩ = some (.int .i64 x1) ∧ w.cell? ⟨b, 2, none⟩ = some (.int .i64 x2) ∧ w.cell? ⟨b, 3, none⟩ = some (.int .i64 x3) ∧ w.cell? ⟨b, 4, none⟩ = some (.int .i64 x4) ∧ w.frozen? ⟨b, 0, none⟩ = false ∧ w.frozen? ⟨b, 1, none⟩ = false ∧ w.frozen? ⟨b, 2, none⟩ = false ∧ w.frozen? ⟨b, 3, none⟩ = false ∧ w.frozen? ⟨b, 4, none⟩ = false
theorem Box5.keep {w w' : World} {b : Nat} {x0 x1 x2 x3 x4 : Int} (h : Box5 w b x0 x1 x2 x3 x4) (hb : w'.heap[b]? = w.heap[b]?) : Box5 w' b x0 x1 x2 x3 x4 := by
  obtain ⟨h0, h1, h2, h3, h4, f0, f1, f2, f3, f4⟩ := h
  exact ⟨(World.cell?_of_block hb).trans h0, (World.cell?_of_block hb).trans h1, (World.cell?_of_block hb).trans h2, (World.cell?_of_block hb).trans h3, (World.cell?_of_block hb).trans h4, (frozen_blk5 hb).trans f0, (frozen_blk5 hb).trans f1, (frozen_blk5 hb).trans f2, (frozen_blk5 hb).trans f3, (frozen_blk5 hb).trans f4⟩
theorem Box5.made (w : World) (x0 x1 x2 x3 x4 : Int) (e : TypeId) : Box5 (w.alloc (.cells #[.int .i64 x0, .int .i64 x1, .int .i64 x2, .int .i64 x3, .int .i64 x4] e)) w.heap.size x0 x1 x2 x3 x4 :=
  ⟨by simp, by simp, by simp, by simp, by simp, by simp only [World.frozen?, heap_alloc_new]; simp, by simp only [World.frozen?, heap_alloc_new]; simp, by simp only [World.frozen?, heap_alloc_new]; simp, by simp only [World.frozen?, heap_alloc_new]; simp, by simp only [World.frozen?, heap_alloc_new]; simp⟩
theorem Box5.lt {w : World} {b : Nat} {x0 x1 x2 x3 x4 : Int} (h : Box5 w b x0 x1 x2 x3 x4) : b < w.heap.size := lt_of_cell h.1
theorem Box5.only {w w' : World} {b : Nat} {x0 x1 x2 x3 x4 : Int} {g : Option Nat} (h : Box5 w b x0 x1 x2 x3 x4) (ho : Only w.heap.size g w w') (hne : g ≠ some b) : Box5 w' b x0 x1 x2 x3 x4 := h.keep (ho.block b h.lt hne)
theorem Box5.set3 {w : World} {b : Nat} {x0 x1 x2 x3 x4 v : Int} (h : Box5 w b x0 x1 x2 x3 x4) : Box5 (w.setCell ⟨b, 3, none⟩ (.int .i64 v)) b x0 x1 x2 v x4 := by
  obtain ⟨h0, h1, h2, h3, h4, f0, f1, f2, f3, f4⟩ := h
  exact ⟨by go_simp, by go_simp, by go_simp, by go_simp, by go_simp, by go_simp, by go_simp, by go_simp, by go_simp, by go_simp⟩
theorem Box5.set4 {w : World} {b : Nat} {x0 x1 x2 x3 x4 v : Int} (h : Box5 w b x0 x1 x2 x3 x4) : Box5 (w.setCell ⟨b, 4, none⟩ (.int .i64 v)) b x0 x1 x2 x3 v := by
  obtain ⟨h0, h1, h2, h3, h4, f0, f1, f2, f3, f4⟩ := h
  exact ⟨by go_simp, by go_simp, by go_simp, by go_simp, by go_simp, by go_simp, by go_simp, by go_simp, by go_simp, by go_simp⟩
theorem Box5.other {w : World} {b c i : Nat} {x0 x1 x2 x3 x4 v : Int} (h : Box5 w b x0 x1 x2 x3 x4) (hne : b ≠ c) : Box5 (w.setCell ⟨c, i, none⟩ (.int .i64 v)) b x0 x1 x2 x3 x4 := h.keep (Below.heap_setCell _ ⟨c, i, none⟩ _ b hne)
theorem Box5.below {w w' : World} {b : Nat} {x0 x1 x2 x3 x4 : Int} (h : Box5 w b x0 x1 x2 x3 x4) (ho : Below w.heap.size w w') : Box5 w' b x0 x1 x2 x3 x4 := h.keep (ho.block b h.lt)
theorem fin5 {g P : Nat} {w w4 : World} (t : ReqV) (hg : g < w.heap.size) (hr : Rd w4 g P) (ho : Only w.heap.size (some g) w w4) : Rd (((((w4.setCell ⟨w.heap.size, 0, none⟩ (.int .i64 t.1)).setCell ⟨w.heap.size, 1, none⟩ (.int .i64 t.2.1)).setCell ⟨w.heap.size, 2, none⟩ (.int .i64 t.2.2.1)).setCell ⟨w.heap.size, 3, none⟩ (.int .i64 t.2.2.2.1)).setCell ⟨w.heap.size, 4, none⟩ (.int .i64 t.2.2.2.2)) g P ∧ Only w.heap.size (some g) w (((((w4.setCell ⟨w.heap.size, 0, none⟩ (.int .i64 t.1)).setCell ⟨w.heap.size, 1, none⟩ (.int .i64 t.2.1)).setCell ⟨w.heap.size, 2, none⟩ (.int .i64 t.2.2.1)).setCell ⟨w.heap.size, 3, none⟩ (.int .i64 t.2.2.2.1)).setCell ⟨w.heap.size, 4, none⟩ (.int .i64 t.2.2.2.2)) := by
  have h1 : g + 1 ≤ w.heap.size := hg
  have h2 : w.heap.size ≤ w.heap.size := Nat.le_refl _
  exact ⟨hr.below ((((((Below.refl (g + 1) w4).setCell h1 _).setCell h1 _).setCell h1 _).setCell h1 _).setCell h1 _) (by omega), ho.trans (Only.of_below ((((((Below.refl w.heap.size w4).setCell h2 _).setCell h2 _).setCell h2 _).setCell h2 _).setCell h2 _))⟩
set_option maxHeartbeats 2000000 in
theorem l20Req_c (g P : Nat) (w : World) (hr : Rd w g P) (hP : P ≤ 900000) :
    Calls Try.prog 69 #[.pointer (some ⟨g, 0, none⟩)] w fun e w' => ∃ t : ReqV, e = .returned (.agg #[.int .i64 t.1, .int .i64 t.2.1, .int .i64 t.2.2.1, .int .i64 t.2.2.2.1, .int .i64 t.2.2.2.2]) ∧ (0 ≤ t.2.1 ∧ t.2.1 ≤ 100) ∧ Rd w' g (P + 20) ∧ Only w.heap.size (some g) w w' := by
  have hg := hr.lt
  have hgb : some g ≠ some w.heap.size := by intro h; injection h with h; omega
  have hb0 : Below w.heap.size w (w.alloc (.cells #[.int .i64 0, .int .i64 0, .int .i64 0, .int .i64 0, .int .i64 0] 25)) := (Below.refl _ _).alloc (Nat.le_refl _) _
  have hx0 := Box5.made w 0 0 0 0 0 25
  have hr0 := hr.keep hb0
  have ho0 : Only w.heap.size (some g) w (w.alloc (.cells #[.int .i64 0, .int .i64 0, .int .i64 0, .int .i64 0, .int .i64 0] 25)) := Only.of_below hb0
  go_enter Try.func69, Try.ntmps69
  go_wp2_with fail
  generalize w.alloc (.cells #[.int .i64 0, .int .i64 0, .int .i64 0, .int .i64 0, .int .i64 0] 25) = w0 at *
  refine (pick_c g _ 3 w0 hr0 (by omega) (by omega)).mono ?_
  rintro e w1 ⟨k1, rfl, hk1, hr1, h1⟩
  have hx1 := hx0.only h1 hgb
  have ho1 := ho0.trans (h1.mono ho0.size)
  have hk1' : (k1 : Int) ≤ 2 := by have := hk1.1 (by omega); omega
  clear hk1 h1
  go_wp2_with fail
  refine (pick_c g _ 6 w1 hr1 (by omega) (by omega)).mono ?_
  rintro e w2 ⟨k2, rfl, hk2, hr2, h2⟩
  have hx2 := hx1.only h2 hgb
  have ho2 := ho1.trans (h2.mono ho1.size)
  have hk2' : (k2 : Int) ≤ 5 := by have := hk2.1 (by omega); omega
  clear hk2 h2
  go_wp2_with fail
  refine (pick_c g _ 5 w2 hr2 (by omega) (by omega)).mono ?_
  rintro e w3 ⟨k3, rfl, hk3, hr3, h3⟩
  have hx3 := hx2.only h3 hgb
  have ho3 := ho2.trans (h3.mono ho2.size)
  have hk3' : (k3 : Int) ≤ 4 := by have := hk3.1 (by omega); omega
  clear hk3 h3
  have hA := (Below.refl w3.heap.size w3).alloc (Nat.le_refl _) (.cells #[.int .i64 (1 + (k1 : Int)), .int .i64 (1 + (k2 : Int)), .int .i64 (1 + (k3 : Int)), .int .i64 0, .int .i64 0] 25)
  have hy4 := Box5.made w3 (1 + (k1 : Int)) (1 + (k2 : Int)) (1 + (k3 : Int)) 0 0 25
  have hx4 := hx3.below hA
  have hr4 := hr3.keep hA
  have ho4 := ho3.trans ((Only.of_below hA).mono ho3.size)
  have hgy : some g ≠ some w3.heap.size := by intro h; injection h with h; have := hr3.lt; omega
  have hgw : g + 1 ≤ w3.heap.size := hr3.lt
  have hww : w.heap.size ≤ w3.heap.size := ho3.size
  have hwn : w.heap.size ≠ w3.heap.size := by have := hx3.lt; omega
  have hwq : w3.heap.size ≠ w.heap.size := fun h => hwn h.symm
  clear hr0 hr1 hr2 hr3 hx0 hx1 hx2 hx3 ho0 ho1 ho2 ho3 hA hb0 hr
  have hk1n : (0 : Int) ≤ (k1 : Int) := by omega
  by_cases c : (k3 : Int) = 1
  · have d2 : ((1 + (k3 : Int)) == 2) = true := by simp; omega
    clear c
    obtain ⟨y0, y1, y2, y3, y4, yf0, yf1, yf2, yf3, yf4⟩ := id hy4
    obtain ⟨x0, x1, x2, x3, x4, xf0, xf1, xf2, xf3, xf4⟩ := id hx4
    go_wp2_with fail
    refine (pick_c g _ 3 (w3.alloc (.cells #[.int .i64 (1 + (k1 : Int)), .int .i64 (1 + (k2 : Int)), .int .i64 (1 + (k3 : Int)), .int .i64 0, .int .i64 0] 25)) hr4 (by omega) (by omega)).mono ?_
    rintro e w5 ⟨k5, rfl, hk5, hr5, h5⟩
    have hx5 := hx4.only h5 hgb
    have hy5 := hy4.only h5 hgy
    have ho5 := ho4.trans (h5.mono ho4.size)
    have hk5' : (k5 : Int) ≤ 2 := by have := hk5.1 (by omega); omega
    clear hk5 h5
    obtain ⟨y0, y1, y2, y3, y4, yf0, yf1, yf2, yf3, yf4⟩ := id hy5
    obtain ⟨x0, x1, x2, x3, x4, xf0, xf1, xf2, xf3, xf4⟩ := id hx5
    have hr6 := hr5.below (w' := (w5.setCell ⟨w3.heap.size, 3, none⟩ (.int .i64 ((k5 : Int) - 1)))) ((Below.refl (g + 1) w5).setCell hgw _) (by omega)
    have ho6 := ho5.trans (w' := (w5.setCell ⟨w3.heap.size, 3, none⟩ (.int .i64 ((k5 : Int) - 1)))) (Only.of_below ((Below.refl w.heap.size w5).setCell hww _))
    have hy6 := hy5.set3 (v := (k5 : Int) - 1)
    have hx6 := hx5.other (c := w3.heap.size) (i := 3) (v := (k5 : Int) - 1) hwn
    go_wp2_with fail
    generalize (w5.setCell ⟨w3.heap.size, 3, none⟩ (.int .i64 ((k5 : Int) - 1))) = w6 at *
    refine (pick_c g _ 3 w6 hr6 (by omega) (by omega)).mono ?_
    rintro e w7 ⟨k7, rfl, hk7, hr7, h7⟩
    have hx7 := hx6.only h7 hgb
    have hy7 := hy6.only h7 hgy
    have ho7 := ho6.trans (h7.mono ho6.size)
    have hk7' : (k7 : Int) ≤ 2 := by have := hk7.1 (by omega); omega
    clear hk7 h7
    have hr8 := hr7.below (w' := (w7.setCell ⟨w3.heap.size, 4, none⟩ (.int .i64 ((k7 : Int) - 1)))) ((Below.refl (g + 1) w7).setCell hgw _) (by omega)
    have ho8 := ho7.trans (w' := (w7.setCell ⟨w3.heap.size, 4, none⟩ (.int .i64 ((k7 : Int) - 1)))) (Only.of_below ((Below.refl w.heap.size w7).setCell hww _))
    have hy8 := hy7.set4 (v := (k7 : Int) - 1)
    have hx8 := hx7.other (c := w3.heap.size) (i := 4) (v := (k7 : Int) - 1) hwn
    obtain ⟨y0, y1, y2, y3, y4, yf0, yf1, yf2, yf3, yf4⟩ := id hy7
    obtain ⟨x0, x1, x2, x3, x4, xf0, xf1, xf2, xf3, xf4⟩ := id hx7
    go_wp2
    refine bodyPost_ret (v := .agg #[.int .i64 (1 + (k1 : Int)), .int .i64 (1 + (k2 : Int)), .int .i64 (1 + (k3 : Int)), .int .i64 ((k5 : Int) - 1), .int .i64 ((k7 : Int) - 1)]) (by simp [results, Try.results69, go_sem, x0, x1, x2, x3, x4]) rfl ⟨(1 + (k1 : Int), 1 + (k2 : Int), 1 + (k3 : Int), (k5 : Int) - 1, (k7 : Int) - 1), rfl, ?_⟩
    exact ⟨⟨by dsimp only; omega, by dsimp only; omega⟩, (fin5 (1 + (k1 : Int), 1 + (k2 : Int), 1 + (k3 : Int), (k5 : Int) - 1, (k7 : Int) - 1) hg hr8 ho8).1.mono (by omega), (fin5 (1 + (k1 : Int), 1 + (k2 : Int), 1 + (k3 : Int), (k5 : Int) - 1, (k7 : Int) - 1) hg hr8 ho8).2⟩
  · skip
    by_cases c : (k3 : Int) = 3
    · have d2 : ((1 + (k3 : Int)) == 2) = false := by simp; omega
      have d4 : ((1 + (k3 : Int)) == 4) = true := by simp; omega
      clear c
      obtain ⟨y0, y1, y2, y3, y4, yf0, yf1, yf2, yf3, yf4⟩ := id hy4
      obtain ⟨x0, x1, x2, x3, x4, xf0, xf1, xf2, xf3, xf4⟩ := id hx4
      go_wp2_with fail
      refine (pick_c g _ 3 (w3.alloc (.cells #[.int .i64 (1 + (k1 : Int)), .int .i64 (1 + (k2 : Int)), .int .i64 (1 + (k3 : Int)), .int .i64 0, .int .i64 0] 25)) hr4 (by omega) (by omega)).mono ?_
      rintro e w5 ⟨k5, rfl, hk5, hr5, h5⟩
      have hx5 := hx4.only h5 hgb
      have hy5 := hy4.only h5 hgy
      have ho5 := ho4.trans (h5.mono ho4.size)
      have hk5' : (k5 : Int) ≤ 2 := by have := hk5.1 (by omega); omega
      clear hk5 h5
      have hr6 := hr5.below (w' := (w5.setCell ⟨w3.heap.size, 3, none⟩ (.int .i64 (1 + (k5 : Int))))) ((Below.refl (g + 1) w5).setCell hgw _) (by omega)
      have ho6 := ho5.trans (w' := (w5.setCell ⟨w3.heap.size, 3, none⟩ (.int .i64 (1 + (k5 : Int))))) (Only.of_below ((Below.refl w.heap.size w5).setCell hww _))
      have hy6 := hy5.set3 (v := 1 + (k5 : Int))
      have hx6 := hx5.other (c := w3.heap.size) (i := 3) (v := 1 + (k5 : Int)) hwn
      obtain ⟨y0, y1, y2, y3, y4, yf0, yf1, yf2, yf3, yf4⟩ := id hy5
      obtain ⟨x0, x1, x2, x3, x4, xf0, xf1, xf2, xf3, xf4⟩ := id hx5
      go_wp2
      refine bodyPost_ret (v := .agg #[.int .i64 (1 + (k1 : Int)), .int .i64 (1 + (k2 : Int)), .int .i64 (1 + (k3 : Int)), .int .i64 (1 + (k5 : Int)), .int .i64 (0)]) (by simp [results, Try.results69, go_sem, x0, x1, x2, x3, x4]) rfl ⟨(1 + (k1 : Int), 1 + (k2 : Int), 1 + (k3 : Int), 1 + (k5 : Int), 0), rfl, ?_⟩
      exact ⟨⟨by dsimp only; omega, by dsimp only; omega⟩, (fin5 (1 + (k1 : Int), 1 + (k2 : Int), 1 + (k3 : Int), 1 + (k5 : Int), 0) hg hr6 ho6).1.mono (by omega), (fin5 (1 + (k1 : Int), 1 + (k2 : Int), 1 + (k3 : Int), 1 + (k5 : Int), 0) hg hr6 ho6).2⟩
    · skip
      by_cases c : (k3 : Int) = 4
      · have d2 : ((1 + (k3 : Int)) == 2) = false := by simp; omega
        have d4 : ((1 + (k3 : Int)) == 4) = false := by simp; omega
        have d5 : ((1 + (k3 : Int)) == 5) = true := by simp; omega
        clear c
        obtain ⟨y0, y1, y2, y3, y4, yf0, yf1, yf2, yf3, yf4⟩ := id hy4
        obtain ⟨x0, x1, x2, x3, x4, xf0, xf1, xf2, xf3, xf4⟩ := id hx4
        go_wp2_with fail
        refine (pick_c g _ 3 (w3.alloc (.cells #[.int .i64 (1 + (k1 : Int)), .int .i64 (1 + (k2 : Int)), .int .i64 (1 + (k3 : Int)), .int .i64 0, .int .i64 0] 25)) hr4 (by omega) (by omega)).mono ?_
        rintro e w5 ⟨k5, rfl, hk5, hr5, h5⟩
        have hx5 := hx4.only h5 hgb
        have hy5 := hy4.only h5 hgy
        have ho5 := ho4.trans (h5.mono ho4.size)
        have hk5' : (k5 : Int) ≤ 2 := by have := hk5.1 (by omega); omega
        clear hk5 h5
        obtain ⟨y0, y1, y2, y3, y4, yf0, yf1, yf2, yf3, yf4⟩ := id hy5
        obtain ⟨x0, x1, x2, x3, x4, xf0, xf1, xf2, xf3, xf4⟩ := id hx5
        have hr6 := hr5.below (w' := (w5.setCell ⟨w3.heap.size, 3, none⟩ (.int .i64 (1 + (k5 : Int))))) ((Below.refl (g + 1) w5).setCell hgw _) (by omega)
        have ho6 := ho5.trans (w' := (w5.setCell ⟨w3.heap.size, 3, none⟩ (.int .i64 (1 + (k5 : Int))))) (Only.of_below ((Below.refl w.heap.size w5).setCell hww _))
        have hy6 := hy5.set3 (v := 1 + (k5 : Int))
        have hx6 := hx5.other (c := w3.heap.size) (i := 3) (v := 1 + (k5 : Int)) hwn
        go_wp2_with fail
        generalize (w5.setCell ⟨w3.heap.size, 3, none⟩ (.int .i64 (1 + (k5 : Int)))) = w6 at *
        refine (pick_c g _ 3 w6 hr6 (by omega) (by omega)).mono ?_
        rintro e w7 ⟨k7, rfl, hk7, hr7, h7⟩
        have hx7 := hx6.only h7 hgb
        have hy7 := hy6.only h7 hgy
        have ho7 := ho6.trans (h7.mono ho6.size)
        have hk7' : (k7 : Int) ≤ 2 := by have := hk7.1 (by omega); omega
        clear hk7 h7
        have hr8 := hr7.below (w' := (w7.setCell ⟨w3.heap.size, 4, none⟩ (.int .i64 (1 + (k7 : Int))))) ((Below.refl (g + 1) w7).setCell hgw _) (by omega)
        have ho8 := ho7.trans (w' := (w7.setCell ⟨w3.heap.size, 4, none⟩ (.int .i64 (1 + (k7 : Int))))) (Only.of_below ((Below.refl w.heap.size w7).setCell hww _))
        have hy8 := hy7.set4 (v := 1 + (k7 : Int))
        have hx8 := hx7.other (c := w3.heap.size) (i := 4) (v := 1 + (k7 : Int)) hwn
        obtain ⟨y0, y1, y2, y3, y4, yf0, yf1, yf2, yf3, yf4⟩ := id hy7
        obtain ⟨x0, x1, x2, x3, x4, xf0, xf1, xf2, xf3, xf4⟩ := id hx7
        go_wp2
        refine bodyPost_ret (v := .agg #[.int .i64 (1 + (k1 : Int)), .int .i64 (1 + (k2 : Int)), .int .i64 (1 + (k3 : Int)), .int .i64 (1 + (k5 : Int)), .int .i64 (1 + (k7 : Int))]) (by simp [results, Try.results69, go_sem, x0, x1, x2, x3, x4]) rfl ⟨(1 + (k1 : Int), 1 + (k2 : Int), 1 + (k3 : Int), 1 + (k5 : Int), 1 + (k7 : Int)), rfl, ?_⟩
        exact ⟨⟨by dsimp only; omega, by dsimp only; omega⟩, (fin5 (1 + (k1 : Int), 1 + (k2 : Int), 1 + (k3 : Int), 1 + (k5 : Int), 1 + (k7 : Int)) hg hr8 ho8).1.mono (by omega), (fin5 (1 + (k1 : Int), 1 + (k2 : Int), 1 + (k3 : Int), 1 + (k5 : Int), 1 + (k7 : Int)) hg hr8 ho8).2⟩
      · skip
        have d2 : ((1 + (k3 : Int)) == 2) = false := by simp; omega
        have d4 : ((1 + (k3 : Int)) == 4) = false := by simp; omega
        have d5 : ((1 + (k3 : Int)) == 5) = false := by simp; omega
        obtain ⟨y0, y1, y2, y3, y4, yf0, yf1, yf2, yf3, yf4⟩ := id hy4
        obtain ⟨x0, x1, x2, x3, x4, xf0, xf1, xf2, xf3, xf4⟩ := id hx4
        go_wp2
        refine bodyPost_ret (v := .agg #[.int .i64 (1 + (k1 : Int)), .int .i64 (1 + (k2 : Int)), .int .i64 (1 + (k3 : Int)), .int .i64 (0), .int .i64 (0)]) (by simp [results, Try.results69, go_sem, x0, x1, x2, x3, x4]) rfl ⟨(1 + (k1 : Int), 1 + (k2 : Int), 1 + (k3 : Int), 0, 0), rfl, ?_⟩
        exact ⟨⟨by dsimp only; omega, by dsimp only; omega⟩, (fin5 (1 + (k1 : Int), 1 + (k2 : Int), 1 + (k3 : Int), 0, 0) hg hr4 ho4).1.mono (by omega), (fin5 (1 + (k1 : Int), 1 + (k2 : Int), 1 + (k3 : Int), 0, 0) hg hr4 ho4).2⟩
end Go.Proofs.Ytopmbnnjhoinkaa
