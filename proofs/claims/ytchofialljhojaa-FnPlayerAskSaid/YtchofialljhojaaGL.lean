/-
  What the players' laws draw: 'l20Req', 'l20AnyReq', 'l20Reply'.
-/
import Derived.Test.YtchofialljhojaaGK
namespace Go.Proofs.Ytchofialljhojaa
open Go.RowKit Rg
set_option linter.unusedVariables false
set_option linter.unusedSimpArgs false

theorem frozen_blk5 {w w' : World} {b j : Nat} (h : w'.heap[b]? = w.heap[b]?) : w'.frozen? ⟨b, j, none⟩ = w.frozen? ⟨b, j, none⟩ := by simp [World.frozen?, h]
def Box5 (w : World) (b : Nat) (x0 x1 x2 x3 x4 : Int) : Prop := w.cell? ⟨b, 0, none⟩ = some (.int .i64 x0) ∧ w.cell? ⟨b, 1, none⟩ = some (.int .i64 x1) ∧ w.cell? ⟨b, 2, none⟩ = some (.int .i64 x2) ∧ w.cell? ⟨b, 3, none⟩ = some (.int .i64 x3) ∧ w.cell? ⟨b, 4, none⟩ = some (.int .i64 x4) ∧ w.frozen? ⟨b, 0, none⟩ = false ∧ w.frozen? ⟨b, 1, none⟩ = false ∧ w.frozen? ⟨b, 2, none⟩ = false ∧ w.frozen? ⟨b, 3, none⟩ = false ∧ w.frozen? ⟨b, 4, none⟩ = false
theorem Box5.keep {w w' : World} {b : Nat} {x0 x1 x2 x3 x4 : Int} (h : Box5 w b x0 x1 x2 x3 x4) (hb : w'.heap[b]? = w.heap[b]?) : Box5 w' b x0 x1 x2 x3 x4 := by
  obtain ⟨h0, h1, h2, h3, h4, f0, f1, f2, f3, f4⟩ := h
  exact ⟨(World.cell?_of_block hb).trans h0, (World.cell?_of_block hb).trans h1, (World.cell?_of_block hb).trans h2, (World.cell?_of_block hb).trans h3, (World.cell?_of_block hb).trans h4, (frozen_blk5 hb).trans f0, (frozen_blk5 hb).trans f1, (frozen_blk5 hb).trans f2, (frozen_blk5 hb).trans f3, (frozen_blk5 hb).trans f4⟩
theorem Box5.made (w : World) (x0 x1 x2 x3 x4 : Int) (e : TypeId) : Box5 (w.alloc (.cells #[.int .i64 x0, .int .i64 x1, .int .i64 x2, .int .i64 x3, .int .i64 x4] e)) w.heap.size x0 x1 x2 x3 x4 :=
  ⟨by simp, by simp, by simp, by simp, by simp, by simp only [World.frozen?, heap_alloc_new]; simp, by simp only [World.frozen?, heap_alloc_new]; simp, by simp only [World.frozen?, heap_alloc_new]; simp, by simp only [World.frozen?, heap_alloc_new]; simp, by simp only [World.frozen?, heap_alloc_new]; simp⟩
theorem Box5.lt {w : World} {b : Nat} {x0 x1 x2 x3 x4 : Int} (h : Box5 w b x0 x1 x2 x3 x4) : b < w.heap.size := lt_of_cell h.1
theorem Box5.only {w w' : World} {b : Nat} {x0 x1 x2 x3 x4 : Int} {g : Option Nat} (h : Box5 w b x0 x1 x2 x3 x4) (ho : Only w.heap.size g w w') (hne : g ≠ some b) : Box5 w' b x0 x1 x2 x3 x4 := h.keep (ho.block b h.lt hne)
theorem Box5.set0 {w : World} {b : Nat} {x0 x1 x2 x3 x4 v : Int} (h : Box5 w b x0 x1 x2 x3 x4) : Box5 (w.setCell ⟨b, 0, none⟩ (.int .i64 v)) b v x1 x2 x3 x4 := by
  obtain ⟨h0, h1, h2, h3, h4, f0, f1, f2, f3, f4⟩ := h
  exact ⟨by go_simp, by go_simp, by go_simp, by go_simp, by go_simp, by go_simp, by go_simp, by go_simp, by go_simp, by go_simp⟩
theorem Box5.set1 {w : World} {b : Nat} {x0 x1 x2 x3 x4 v : Int} (h : Box5 w b x0 x1 x2 x3 x4) : Box5 (w.setCell ⟨b, 1, none⟩ (.int .i64 v)) b x0 v x2 x3 x4 := by
  obtain ⟨h0, h1, h2, h3, h4, f0, f1, f2, f3, f4⟩ := h
  exact ⟨by go_simp, by go_simp, by go_simp, by go_simp, by go_simp, by go_simp, by go_simp, by go_simp, by go_simp, by go_simp⟩
theorem Box5.set2 {w : World} {b : Nat} {x0 x1 x2 x3 x4 v : Int} (h : Box5 w b x0 x1 x2 x3 x4) : Box5 (w.setCell ⟨b, 2, none⟩ (.int .i64 v)) b x0 x1 v x3 x4 := by
  obtain ⟨h0, h1, h2, h3, h4, f0, f1, f2, f3, f4⟩ := h
  exact ⟨by go_simp, by go_simp, by go_simp, by go_simp, by go_simp, by go_simp, by go_simp, by go_simp, by go_simp, by go_simp⟩
theorem Box5.set3 {w : World} {b : Nat} {x0 x1 x2 x3 x4 v : Int} (h : Box5 w b x0 x1 x2 x3 x4) : Box5 (w.setCell ⟨b, 3, none⟩ (.int .i64 v)) b x0 x1 x2 v x4 := by
  obtain ⟨h0, h1, h2, h3, h4, f0, f1, f2, f3, f4⟩ := h
  exact ⟨by go_simp, by go_simp, by go_simp, by go_simp, by go_simp, by go_simp, by go_simp, by go_simp, by go_simp, by go_simp⟩
theorem Box5.set4 {w : World} {b : Nat} {x0 x1 x2 x3 x4 v : Int} (h : Box5 w b x0 x1 x2 x3 x4) : Box5 (w.setCell ⟨b, 4, none⟩ (.int .i64 v)) b x0 x1 x2 x3 v := by
  obtain ⟨h0, h1, h2, h3, h4, f0, f1, f2, f3, f4⟩ := h
  exact ⟨by go_simp, by go_simp, by go_simp, by go_simp, by go_simp, by go_simp, by go_simp, by go_simp, by go_simp, by go_simp⟩
theorem Box5.other {w : World} {b c i : Nat} {x0 x1 x2 x3 x4 v : Int} (h : Box5 w b x0 x1 x2 x3 x4) (hne : b ≠ c) : Box5 (w.setCell ⟨c, i, none⟩ (.int .i64 v)) b x0 x1 x2 x3 x4 := h.keep (Below.heap_setCell _ ⟨c, i, none⟩ _ b hne)
theorem Box5.below {w w' : World} {b : Nat} {x0 x1 x2 x3 x4 : Int} (h : Box5 w b x0 x1 x2 x3 x4) (ho : Below w.heap.size w w') : Box5 w' b x0 x1 x2 x3 x4 := h.keep (ho.block b h.lt)
def Box4 (w : World) (b : Nat) (x0 x1 x2 x3 : Int) : Prop := w.cell? ⟨b, 0, none⟩ = some (.int .i64 x0) ∧ w.cell? ⟨b, 1, none⟩ = some (.int .i64 x1) ∧ w.cell? ⟨b, 2, none⟩ = some (.int .i64 x2) ∧ w.cell? ⟨b, 3, none⟩ = some (.int .i64 x3) ∧ w.frozen? ⟨b, 0, none⟩ = false ∧ w.frozen? ⟨b, 1, none⟩ = false ∧ w.frozen? ⟨b, 2, none⟩ = false ∧ w.frozen? ⟨b, 3, none⟩ = false
theorem Box4.keep {w w' : World} {b : Nat} {x0 x1 x2 x3 : Int} (h : Box4 w b x0 x1 x2 x3) (hb : w'.heap[b]? = w.heap[b]?) : Box4 w' b x0 x1 x2 x3 := by
  obtain ⟨h0, h1, h2, h3, f0, f1, f2, f3⟩ := h
  exact ⟨(World.cell?_of_block hb).trans h0, (World.cell?_of_block hb).trans h1, (World.cell?_of_block hb).trans h2, (World.cell?_of_block hb).trans h3, (frozen_blk5 hb).trans f0, (frozen_blk5 hb).trans f1, (frozen_blk5 hb).trans f2, (frozen_blk5 hb).trans f3⟩
theorem Box4.made (w : World) (x0 x1 x2 x3 : Int) (e : TypeId) : Box4 (w.alloc (.cells #[.int .i64 x0, .int .i64 x1, .int .i64 x2, .int .i64 x3] e)) w.heap.size x0 x1 x2 x3 :=
  ⟨by simp, by simp, by simp, by simp, by simp only [World.frozen?, heap_alloc_new]; simp, by simp only [World.frozen?, heap_alloc_new]; simp, by simp only [World.frozen?, heap_alloc_new]; simp, by simp only [World.frozen?, heap_alloc_new]; simp⟩
theorem Box4.lt {w : World} {b : Nat} {x0 x1 x2 x3 : Int} (h : Box4 w b x0 x1 x2 x3) : b < w.heap.size := lt_of_cell h.1
theorem Box4.only {w w' : World} {b : Nat} {x0 x1 x2 x3 : Int} {g : Option Nat} (h : Box4 w b x0 x1 x2 x3) (ho : Only w.heap.size g w w') (hne : g ≠ some b) : Box4 w' b x0 x1 x2 x3 := h.keep (ho.block b h.lt hne)
theorem Box4.set0 {w : World} {b : Nat} {x0 x1 x2 x3 v : Int} (h : Box4 w b x0 x1 x2 x3) : Box4 (w.setCell ⟨b, 0, none⟩ (.int .i64 v)) b v x1 x2 x3 := by
  obtain ⟨h0, h1, h2, h3, f0, f1, f2, f3⟩ := h
  exact ⟨by go_simp, by go_simp, by go_simp, by go_simp, by go_simp, by go_simp, by go_simp, by go_simp⟩
theorem Box4.set1 {w : World} {b : Nat} {x0 x1 x2 x3 v : Int} (h : Box4 w b x0 x1 x2 x3) : Box4 (w.setCell ⟨b, 1, none⟩ (.int .i64 v)) b x0 v x2 x3 := by
  obtain ⟨h0, h1, h2, h3, f0, f1, f2, f3⟩ := h
  exact ⟨by go_simp, by go_simp, by go_simp, by go_simp, by go_simp, by go_simp, by go_simp, by go_simp⟩
theorem Box4.set2 {w : World} {b : Nat} {x0 x1 x2 x3 v : Int} (h : Box4 w b x0 x1 x2 x3) : Box4 (w.setCell ⟨b, 2, none⟩ (.int .i64 v)) b x0 x1 v x3 := by
  obtain ⟨h0, h1, h2, h3, f0, f1, f2, f3⟩ := h
  exact ⟨by go_simp, by go_simp, by go_simp, by go_simp, by go_simp, by go_simp, by go_simp, by go_simp⟩
theorem Box4.set3 {w : World} {b : Nat} {x0 x1 x2 x3 v : Int} (h : Box4 w b x0 x1 x2 x3) : Box4 (w.setCell ⟨b, 3, none⟩ (.int .i64 v)) b x0 x1 x2 v := by
  obtain ⟨h0, h1, h2, h3, f0, f1, f2, f3⟩ := h
  exact ⟨by go_simp, by go_simp, by go_simp, by go_simp, by go_simp, by go_simp, by go_simp, by go_simp⟩
theorem Box4.other {w : World} {b c i : Nat} {x0 x1 x2 x3 v : Int} (h : Box4 w b x0 x1 x2 x3) (hne : b ≠ c) : Box4 (w.setCell ⟨c, i, none⟩ (.int .i64 v)) b x0 x1 x2 x3 := h.keep (Below.heap_setCell _ ⟨c, i, none⟩ _ b hne)
theorem Box4.below {w w' : World} {b : Nat} {x0 x1 x2 x3 : Int} (h : Box4 w b x0 x1 x2 x3) (ho : Below w.heap.size w w') : Box4 w' b x0 x1 x2 x3 := h.keep (ho.block b h.lt)
theorem fin5 {g P : Nat} {w w4 : World} (t : ReqV) (hg : g < w.heap.size) (hr : Rd w4 g P) (ho : Only w.heap.size (some g) w w4) : Rd (((((w4.setCell ⟨w.heap.size, 0, none⟩ (.int .i64 t.1)).setCell ⟨w.heap.size, 1, none⟩ (.int .i64 t.2.1)).setCell ⟨w.heap.size, 2, none⟩ (.int .i64 t.2.2.1)).setCell ⟨w.heap.size, 3, none⟩ (.int .i64 t.2.2.2.1)).setCell ⟨w.heap.size, 4, none⟩ (.int .i64 t.2.2.2.2)) g P ∧ Only w.heap.size (some g) w (((((w4.setCell ⟨w.heap.size, 0, none⟩ (.int .i64 t.1)).setCell ⟨w.heap.size, 1, none⟩ (.int .i64 t.2.1)).setCell ⟨w.heap.size, 2, none⟩ (.int .i64 t.2.2.1)).setCell ⟨w.heap.size, 3, none⟩ (.int .i64 t.2.2.2.1)).setCell ⟨w.heap.size, 4, none⟩ (.int .i64 t.2.2.2.2)) := by
  have h1 : g + 1 ≤ w.heap.size := hg
  have h2 : w.heap.size ≤ w.heap.size := Nat.le_refl _
  exact ⟨hr.below ((((((Below.refl (g + 1) w4).setCell h1 _).setCell h1 _).setCell h1 _).setCell h1 _).setCell h1 _) (by omega), ho.trans (Only.of_below ((((((Below.refl w.heap.size w4).setCell h2 _).setCell h2 _).setCell h2 _).setCell h2 _).setCell h2 _))⟩
theorem fin4 {g P : Nat} {w w4 : World} (t : ReplyT) (hg : g < w.heap.size) (hr : Rd w4 g P) (ho : Only w.heap.size (some g) w w4) : Rd ((((w4.setCell ⟨w.heap.size, 0, none⟩ (.int .i64 t.1)).setCell ⟨w.heap.size, 1, none⟩ (.int .i64 t.2.1)).setCell ⟨w.heap.size, 2, none⟩ (.int .i64 t.2.2.1)).setCell ⟨w.heap.size, 3, none⟩ (.int .i64 t.2.2.2)) g P ∧ Only w.heap.size (some g) w ((((w4.setCell ⟨w.heap.size, 0, none⟩ (.int .i64 t.1)).setCell ⟨w.heap.size, 1, none⟩ (.int .i64 t.2.1)).setCell ⟨w.heap.size, 2, none⟩ (.int .i64 t.2.2.1)).setCell ⟨w.heap.size, 3, none⟩ (.int .i64 t.2.2.2)) := by
  have h1 : g + 1 ≤ w.heap.size := hg
  have h2 : w.heap.size ≤ w.heap.size := Nat.le_refl _
  exact ⟨hr.below (((((Below.refl (g + 1) w4).setCell h1 _).setCell h1 _).setCell h1 _).setCell h1 _) (by omega), ho.trans (Only.of_below (((((Below.refl w.heap.size w4).setCell h2 _).setCell h2 _).setCell h2 _).setCell h2 _))⟩
set_option maxHeartbeats 2000000 in
theorem l20Req_c (g P : Nat) (w : World) (hr : Rd w g P) (hP : P ≤ 100000) :
    Calls Try.prog 89 #[.pointer (some ⟨g, 0, none⟩)] w fun e w' => ∃ t : ReqV, e = .returned (.agg #[.int .i64 t.1, .int .i64 t.2.1, .int .i64 t.2.2.1, .int .i64 t.2.2.2.1, .int .i64 t.2.2.2.2]) ∧ (0 ≤ t.2.1 ∧ t.2.1 ≤ 100) ∧ Rd w' g (P + 20) ∧ Only w.heap.size (some g) w w' := by
  have hg := hr.lt
  have hgb : some g ≠ some w.heap.size := by intro h; injection h with h; omega
  have hb0 : Below w.heap.size w (w.alloc (.cells #[.int .i64 0, .int .i64 0, .int .i64 0, .int .i64 0, .int .i64 0] 29)) := (Below.refl _ _).alloc (Nat.le_refl _) _
  have hx0 := Box5.made w 0 0 0 0 0 29
  have hr0 := hr.keep hb0
  have ho0 : Only w.heap.size (some g) w (w.alloc (.cells #[.int .i64 0, .int .i64 0, .int .i64 0, .int .i64 0, .int .i64 0] 29)) := Only.of_below hb0
  go_enter Try.func89, Try.ntmps89
  go_wp2_with fail
  generalize w.alloc (.cells #[.int .i64 0, .int .i64 0, .int .i64 0, .int .i64 0, .int .i64 0] 29) = w0 at *
  refine (pick_c g _ 3 w0 hr0 (by omega) (by omega)).mono ?_
  rintro e w1 ⟨k1, rfl, hk1, hr1, h1⟩
  have hx1 := hx0.only h1 hgb
  have ho1 := ho0.trans (h1.mono ho0.size)
  have hk1' : (k1 : Int) ≤ 2 := by have := hk1.1 (by omega); omega
  clear hk1 h1
  go_wp2_with fail
  refine (pick_c g _ 6 w1 hr1 (by omega) (by omega)).mono ?_
  rintro e w2 ⟨k2, rfl, hk2, hr2, h2⟩
  have hx2 := hx1.only h2 hgb
  have ho2 := ho1.trans (h2.mono ho1.size)
  have hk2' : (k2 : Int) ≤ 5 := by have := hk2.1 (by omega); omega
  clear hk2 h2
  go_wp2_with fail
  refine (pick_c g _ 5 w2 hr2 (by omega) (by omega)).mono ?_
  rintro e w3 ⟨k3, rfl, hk3, hr3, h3⟩
  have hx3 := hx2.only h3 hgb
  have ho3 := ho2.trans (h3.mono ho2.size)
  have hk3' : (k3 : Int) ≤ 4 := by have := hk3.1 (by omega); omega
  clear hk3 h3
  have hA := (Below.refl w3.heap.size w3).alloc (Nat.le_refl _) (.cells #[.int .i64 (1 + (k1 : Int)), .int .i64 (1 + (k2 : Int)), .int .i64 (1 + (k3 : Int)), .int .i64 0, .int .i64 0] 29)
  have hy4 := Box5.made w3 (1 + (k1 : Int)) (1 + (k2 : Int)) (1 + (k3 : Int)) 0 0 29
  have hx4 := hx3.below hA
  have hr4 := hr3.keep hA
  have ho4 := ho3.trans ((Only.of_below hA).mono ho3.size)
  have hgy : some g ≠ some w3.heap.size := by intro h; injection h with h; have := hr3.lt; omega
  have hgw : g + 1 ≤ w3.heap.size := hr3.lt
  have hww : w.heap.size ≤ w3.heap.size := ho3.size
  have hwn : w.heap.size ≠ w3.heap.size := by have := hx3.lt; omega
  have hwq : w3.heap.size ≠ w.heap.size := fun h => hwn h.symm
  clear hr0 hr1 hr2 hr3 hx0 hx1 hx2 hx3 ho0 ho1 ho2 ho3 hA hb0 hr
  have hk1n : (0 : Int) ≤ (k1 : Int) := by omega
  by_cases c : (k3 : Int) = 1
  · have d2 : ((1 + (k3 : Int)) == 2) = true := by simp; omega
    clear c
    obtain ⟨y0, y1, y2, y3, y4, yf0, yf1, yf2, yf3, yf4⟩ := id hy4
    obtain ⟨x0, x1, x2, x3, x4, xf0, xf1, xf2, xf3, xf4⟩ := id hx4
    go_wp2_with fail
    refine (pick_c g _ 3 (w3.alloc (.cells #[.int .i64 (1 + (k1 : Int)), .int .i64 (1 + (k2 : Int)), .int .i64 (1 + (k3 : Int)), .int .i64 0, .int .i64 0] 29)) hr4 (by omega) (by omega)).mono ?_
    rintro e w5 ⟨k5, rfl, hk5, hr5, h5⟩
    have hx5 := hx4.only h5 hgb
    have hy5 := hy4.only h5 hgy
    have ho5 := ho4.trans (h5.mono ho4.size)
    have hk5' : (k5 : Int) ≤ 2 := by have := hk5.1 (by omega); omega
    clear hk5 h5
    obtain ⟨y0, y1, y2, y3, y4, yf0, yf1, yf2, yf3, yf4⟩ := id hy5
    obtain ⟨x0, x1, x2, x3, x4, xf0, xf1, xf2, xf3, xf4⟩ := id hx5
    have hr6 := hr5.below (w' := (w5.setCell ⟨w3.heap.size, 3, none⟩ (.int .i64 ((k5 : Int) - 1)))) ((Below.refl (g + 1) w5).setCell hgw _) (by omega)
    have ho6 := ho5.trans (w' := (w5.setCell ⟨w3.heap.size, 3, none⟩ (.int .i64 ((k5 : Int) - 1)))) (Only.of_below ((Below.refl w.heap.size w5).setCell hww _))
    have hy6 := hy5.set3 (v := (k5 : Int) - 1)
    have hx6 := hx5.other (c := w3.heap.size) (i := 3) (v := (k5 : Int) - 1) hwn
    go_wp2_with fail
    generalize (w5.setCell ⟨w3.heap.size, 3, none⟩ (.int .i64 ((k5 : Int) - 1))) = w6 at *
    refine (pick_c g _ 3 w6 hr6 (by omega) (by omega)).mono ?_
    rintro e w7 ⟨k7, rfl, hk7, hr7, h7⟩
    have hx7 := hx6.only h7 hgb
    have hy7 := hy6.only h7 hgy
    have ho7 := ho6.trans (h7.mono ho6.size)
    have hk7' : (k7 : Int) ≤ 2 := by have := hk7.1 (by omega); omega
    clear hk7 h7
    have hr8 := hr7.below (w' := (w7.setCell ⟨w3.heap.size, 4, none⟩ (.int .i64 ((k7 : Int) - 1)))) ((Below.refl (g + 1) w7).setCell hgw _) (by omega)
    have ho8 := ho7.trans (w' := (w7.setCell ⟨w3.heap.size, 4, none⟩ (.int .i64 ((k7 : Int) - 1)))) (Only.of_below ((Below.refl w.heap.size w7).setCell hww _))
    have hy8 := hy7.set4 (v := (k7 : Int) - 1)
    have hx8 := hx7.other (c := w3.heap.size) (i := 4) (v := (k7 : Int) - 1) hwn
    obtain ⟨y0, y1, y2, y3, y4, yf0, yf1, yf2, yf3, yf4⟩ := id hy7
    obtain ⟨x0, x1, x2, x3, x4, xf0, xf1, xf2, xf3, xf4⟩ := id hx7
    go_wp2
    refine bodyPost_ret (v := .agg #[.int .i64 (1 + (k1 : Int)), .int .i64 (1 + (k2 : Int)), .int .i64 (1 + (k3 : Int)), .int .i64 ((k5 : Int) - 1), .int .i64 ((k7 : Int) - 1)]) (by simp [results, Try.results89, go_sem, x0, x1, x2, x3, x4]) rfl ⟨(1 + (k1 : Int), 1 + (k2 : Int), 1 + (k3 : Int), (k5 : Int) - 1, (k7 : Int) - 1), rfl, ?_⟩
    exact ⟨⟨by dsimp only; omega, by dsimp only; omega⟩, (fin5 (1 + (k1 : Int), 1 + (k2 : Int), 1 + (k3 : Int), (k5 : Int) - 1, (k7 : Int) - 1) hg hr8 ho8).1.mono (by omega), (fin5 (1 + (k1 : Int), 1 + (k2 : Int), 1 + (k3 : Int), (k5 : Int) - 1, (k7 : Int) - 1) hg hr8 ho8).2⟩
  · skip
    by_cases c : (k3 : Int) = 3
    · have d2 : ((1 + (k3 : Int)) == 2) = false := by simp; omega
      have d4 : ((1 + (k3 : Int)) == 4) = true := by simp; omega
      clear c
      obtain ⟨y0, y1, y2, y3, y4, yf0, yf1, yf2, yf3, yf4⟩ := id hy4
      obtain ⟨x0, x1, x2, x3, x4, xf0, xf1, xf2, xf3, xf4⟩ := id hx4
      go_wp2_with fail
      refine (pick_c g _ 3 (w3.alloc (.cells #[.int .i64 (1 + (k1 : Int)), .int .i64 (1 + (k2 : Int)), .int .i64 (1 + (k3 : Int)), .int .i64 0, .int .i64 0] 29)) hr4 (by omega) (by omega)).mono ?_
      rintro e w5 ⟨k5, rfl, hk5, hr5, h5⟩
      have hx5 := hx4.only h5 hgb
      have hy5 := hy4.only h5 hgy
      have ho5 := ho4.trans (h5.mono ho4.size)
      have hk5' : (k5 : Int) ≤ 2 := by have := hk5.1 (by omega); omega
      clear hk5 h5
      have hr6 := hr5.below (w' := (w5.setCell ⟨w3.heap.size, 3, none⟩ (.int .i64 (1 + (k5 : Int))))) ((Below.refl (g + 1) w5).setCell hgw _) (by omega)
      have ho6 := ho5.trans (w' := (w5.setCell ⟨w3.heap.size, 3, none⟩ (.int .i64 (1 + (k5 : Int))))) (Only.of_below ((Below.refl w.heap.size w5).setCell hww _))
      have hy6 := hy5.set3 (v := 1 + (k5 : Int))
      have hx6 := hx5.other (c := w3.heap.size) (i := 3) (v := 1 + (k5 : Int)) hwn
      obtain ⟨y0, y1, y2, y3, y4, yf0, yf1, yf2, yf3, yf4⟩ := id hy5
      obtain ⟨x0, x1, x2, x3, x4, xf0, xf1, xf2, xf3, xf4⟩ := id hx5
      go_wp2
      refine bodyPost_ret (v := .agg #[.int .i64 (1 + (k1 : Int)), .int .i64 (1 + (k2 : Int)), .int .i64 (1 + (k3 : Int)), .int .i64 (1 + (k5 : Int)), .int .i64 (0)]) (by simp [results, Try.results89, go_sem, x0, x1, x2, x3, x4]) rfl ⟨(1 + (k1 : Int), 1 + (k2 : Int), 1 + (k3 : Int), 1 + (k5 : Int), 0), rfl, ?_⟩
      exact ⟨⟨by dsimp only; omega, by dsimp only; omega⟩, (fin5 (1 + (k1 : Int), 1 + (k2 : Int), 1 + (k3 : Int), 1 + (k5 : Int), 0) hg hr6 ho6).1.mono (by omega), (fin5 (1 + (k1 : Int), 1 + (k2 : Int), 1 + (k3 : Int), 1 + (k5 : Int), 0) hg hr6 ho6).2⟩
    · skip
      by_cases c : (k3 : Int) = 4
      · have d2 : ((1 + (k3 : Int)) == 2) = false := by simp; omega
        have d4 : ((1 + (k3 : Int)) == 4) = false := by simp; omega
        have d5 : ((1 + (k3 : Int)) == 5) = true := by simp; omega
        clear c
        obtain ⟨y0, y1, y2, y3, y4, yf0, yf1, yf2, yf3, yf4⟩ := id hy4
        obtain ⟨x0, x1, x2, x3, x4, xf0, xf1, xf2, xf3, xf4⟩ := id hx4
        go_wp2_with fail
        refine (pick_c g _ 3 (w3.alloc (.cells #[.int .i64 (1 + (k1 : Int)), .int .i64 (1 + (k2 : Int)), .int .i64 (1 + (k3 : Int)), .int .i64 0, .int .i64 0] 29)) hr4 (by omega) (by omega)).mono ?_
        rintro e w5 ⟨k5, rfl, hk5, hr5, h5⟩
        have hx5 := hx4.only h5 hgb
        have hy5 := hy4.only h5 hgy
        have ho5 := ho4.trans (h5.mono ho4.size)
        have hk5' : (k5 : Int) ≤ 2 := by have := hk5.1 (by omega); omega
        clear hk5 h5
        obtain ⟨y0, y1, y2, y3, y4, yf0, yf1, yf2, yf3, yf4⟩ := id hy5
        obtain ⟨x0, x1, x2, x3, x4, xf0, xf1, xf2, xf3, xf4⟩ := id hx5
        have hr6 := hr5.below (w' := (w5.setCell ⟨w3.heap.size, 3, none⟩ (.int .i64 (1 + (k5 : Int))))) ((Below.refl (g + 1) w5).setCell hgw _) (by omega)
        have ho6 := ho5.trans (w' := (w5.setCell ⟨w3.heap.size, 3, none⟩ (.int .i64 (1 + (k5 : Int))))) (Only.of_below ((Below.refl w.heap.size w5).setCell hww _))
        have hy6 := hy5.set3 (v := 1 + (k5 : Int))
        have hx6 := hx5.other (c := w3.heap.size) (i := 3) (v := 1 + (k5 : Int)) hwn
        go_wp2_with fail
        generalize (w5.setCell ⟨w3.heap.size, 3, none⟩ (.int .i64 (1 + (k5 : Int)))) = w6 at *
        refine (pick_c g _ 3 w6 hr6 (by omega) (by omega)).mono ?_
        rintro e w7 ⟨k7, rfl, hk7, hr7, h7⟩
        have hx7 := hx6.only h7 hgb
        have hy7 := hy6.only h7 hgy
        have ho7 := ho6.trans (h7.mono ho6.size)
        have hk7' : (k7 : Int) ≤ 2 := by have := hk7.1 (by omega); omega
        clear hk7 h7
        have hr8 := hr7.below (w' := (w7.setCell ⟨w3.heap.size, 4, none⟩ (.int .i64 (1 + (k7 : Int))))) ((Below.refl (g + 1) w7).setCell hgw _) (by omega)
        have ho8 := ho7.trans (w' := (w7.setCell ⟨w3.heap.size, 4, none⟩ (.int .i64 (1 + (k7 : Int))))) (Only.of_below ((Below.refl w.heap.size w7).setCell hww _))
        have hy8 := hy7.set4 (v := 1 + (k7 : Int))
        have hx8 := hx7.other (c := w3.heap.size) (i := 4) (v := 1 + (k7 : Int)) hwn
        obtain ⟨y0, y1, y2, y3, y4, yf0, yf1, yf2, yf3, yf4⟩ := id hy7
        obtain ⟨x0, x1, x2, x3, x4, xf0, xf1, xf2, xf3, xf4⟩ := id hx7
        go_wp2
        refine bodyPost_ret (v := .agg #[.int .i64 (1 + (k1 : Int)), .int .i64 (1 + (k2 : Int)), .int .i64 (1 + (k3 : Int)), .int .i64 (1 + (k5 : Int)), .int .i64 (1 + (k7 : Int))]) (by simp [results, Try.results89, go_sem, x0, x1, x2, x3, x4]) rfl ⟨(1 + (k1 : Int), 1 + (k2 : Int), 1 + (k3 : Int), 1 + (k5 : Int), 1 + (k7 : Int)), rfl, ?_⟩
        exact ⟨⟨by dsimp only; omega, by dsimp only; omega⟩, (fin5 (1 + (k1 : Int), 1 + (k2 : Int), 1 + (k3 : Int), 1 + (k5 : Int), 1 + (k7 : Int)) hg hr8 ho8).1.mono (by omega), (fin5 (1 + (k1 : Int), 1 + (k2 : Int), 1 + (k3 : Int), 1 + (k5 : Int), 1 + (k7 : Int)) hg hr8 ho8).2⟩
      · skip
        have d2 : ((1 + (k3 : Int)) == 2) = false := by simp; omega
        have d4 : ((1 + (k3 : Int)) == 4) = false := by simp; omega
        have d5 : ((1 + (k3 : Int)) == 5) = false := by simp; omega
        obtain ⟨y0, y1, y2, y3, y4, yf0, yf1, yf2, yf3, yf4⟩ := id hy4
        obtain ⟨x0, x1, x2, x3, x4, xf0, xf1, xf2, xf3, xf4⟩ := id hx4
        go_wp2
        refine bodyPost_ret (v := .agg #[.int .i64 (1 + (k1 : Int)), .int .i64 (1 + (k2 : Int)), .int .i64 (1 + (k3 : Int)), .int .i64 (0), .int .i64 (0)]) (by simp [results, Try.results89, go_sem, x0, x1, x2, x3, x4]) rfl ⟨(1 + (k1 : Int), 1 + (k2 : Int), 1 + (k3 : Int), 0, 0), rfl, ?_⟩
        exact ⟨⟨by dsimp only; omega, by dsimp only; omega⟩, (fin5 (1 + (k1 : Int), 1 + (k2 : Int), 1 + (k3 : Int), 0, 0) hg hr4 ho4).1.mono (by omega), (fin5 (1 + (k1 : Int), 1 + (k2 : Int), 1 + (k3 : Int), 0, 0) hg hr4 ho4).2⟩
set_option maxHeartbeats 2000000 in
theorem l20AnyReq_c (g P : Nat) (w : World) (hr : Rd w g P) (hP : P ≤ 100000) :
    Calls Try.prog 65 #[.pointer (some ⟨g, 0, none⟩)] w fun e w' => ∃ t : ReqV, e = .returned (.agg #[.int .i64 t.1, .int .i64 t.2.1, .int .i64 t.2.2.1, .int .i64 t.2.2.2.1, .int .i64 t.2.2.2.2]) ∧ (0 ≤ t.2.1 ∧ t.2.1 ≤ 100) ∧ Rd w' g (P + 40) ∧ Only w.heap.size (some g) w w' := by
  have hg := hr.lt
  have hgb : some g ≠ some w.heap.size := by intro h; injection h with h; omega
  have hb0 : Below w.heap.size w (w.alloc (.cells #[.int .i64 0, .int .i64 0, .int .i64 0, .int .i64 0, .int .i64 0] 29)) := (Below.refl _ _).alloc (Nat.le_refl _) _
  have hx0 := Box5.made w 0 0 0 0 0 29
  have hr0 := hr.keep hb0
  have ho0 : Only w.heap.size (some g) w (w.alloc (.cells #[.int .i64 0, .int .i64 0, .int .i64 0, .int .i64 0, .int .i64 0] 29)) := Only.of_below hb0
  go_enter Try.func65, Try.ntmps65
  go_wp2_with fail
  generalize w.alloc (.cells #[.int .i64 0, .int .i64 0, .int .i64 0, .int .i64 0, .int .i64 0] 29) = w0 at *
  refine (l20Req_c g P w0 hr0 hP).mono ?_
  rintro e w1 ⟨t, rfl, ht, hr1, h1⟩
  have hx1 := hx0.only h1 hgb
  have ho1 := ho0.trans (h1.mono hb0.size)
  clear h1
  have hA := (Below.refl w1.heap.size w1).alloc (Nat.le_refl _) (.cells #[.int .i64 t.1, .int .i64 t.2.1, .int .i64 t.2.2.1, .int .i64 t.2.2.2.1, .int .i64 t.2.2.2.2] 29)
  have hy2 := Box5.made w1 t.1 t.2.1 t.2.2.1 t.2.2.2.1 t.2.2.2.2 29
  have hx2 := hx1.below hA
  have hr2 := hr1.keep hA
  have ho2 := ho1.trans ((Only.of_below hA).mono ho1.size)
  have hgy : some g ≠ some w1.heap.size := by intro h; injection h with h; have := hr1.lt; omega
  have hgw : g + 1 ≤ w1.heap.size := hr1.lt
  have hww : w.heap.size ≤ w1.heap.size := ho1.size
  have hwn : w.heap.size ≠ w1.heap.size := by have := hx1.lt; omega
  clear hr0 hr1 hx0 hx1 ho0 ho1 hA hb0 hr
  go_wp2_with fail
  generalize w1.alloc (.cells #[.int .i64 t.1, .int .i64 t.2.1, .int .i64 t.2.2.1, .int .i64 t.2.2.2.1, .int .i64 t.2.2.2.2] 29) = w2 at *
  refine (pick_c g _ 12 w2 hr2 (by omega) (by omega)).mono ?_
  rintro e w3 ⟨k3, rfl, hk3, hr3, h3⟩
  have hx3 := hx2.only h3 hgb
  have hy3 := hy2.only h3 hgy
  have ho3 := ho2.trans (h3.mono ho2.size)
  clear hk3 h3 hr2 hx2 hy2 ho2
  by_cases c0 : k3 = 0
  · have d0 : ((k3 : Int) == 0) = true := by simp [c0]
    clear c0
    obtain ⟨y0, y1, y2, y3, y4, yf0, yf1, yf2, yf3, yf4⟩ := id hy3
    obtain ⟨x0, x1, x2, x3, x4, xf0, xf1, xf2, xf3, xf4⟩ := id hx3
    go_wp2
    refine bodyPost_ret (v := .agg #[.int .i64 (0), .int .i64 (0), .int .i64 (0), .int .i64 (0), .int .i64 (0)]) (by simp [results, Try.results65, go_sem, x0, x1, x2, x3, x4]) rfl ⟨(0, 0, 0, 0, 0), rfl, ?_⟩
    exact ⟨⟨by dsimp only; omega, by dsimp only; omega⟩, (fin5 (0, 0, 0, 0, 0) hg hr3 ho3).1.mono (by omega), (fin5 (0, 0, 0, 0, 0) hg hr3 ho3).2⟩
  · skip
    by_cases c1 : k3 = 1
    · have d0 : ((k3 : Int) == 0) = false := by simp; omega
      have d1 : ((k3 : Int) == 1) = true := by simp [c1]
      clear c1
      have hA4 := (Below.refl w3.heap.size w3).alloc (Nat.le_refl _) (.cells #[.int .i64 0, .int .i64 5, .int .i64 4] 3)
      have hs4 := sl_arr encI_len w3 #[.int .i64 0, .int .i64 5, .int .i64 4] 3 [0, 5, 4] rfl
      have hra4 := hr3.keep hA4
      have hxa4 := hx3.below hA4
      have hya4 := hy3.below hA4
      have hoa4 := ho3.trans ((Only.of_below hA4).mono ho3.size)
      go_wp2_with fail
      refine (one_c g _ _ _ _ 3 3 [0, 5, 4] _ hra4 (by omega) rfl (by omega) (by omega) hs4 hr3.lt (by simp)).mono ?_
      rintro e w4 ⟨k4, hk4, rfl, hr4, h4⟩
      have hx4 := hxa4.only h4 hgb
      have hy4 := hya4.only h4 hgy
      have ho4 := hoa4.trans (h4.mono hoa4.size)
      have hk4' : 0 ≤ k4 ∧ k4 ≤ 5 := by simp at hk4; omega
      clear hk4 h4 hs4 hA4 hra4 hxa4 hya4 hoa4
      have hr5 := hr4.below (w' := (w4.setCell ⟨w1.heap.size, 0, none⟩ (.int .i64 (k4)))) ((Below.refl (g + 1) w4).setCell hgw _) (by omega)
      have ho5 := ho4.trans (w' := (w4.setCell ⟨w1.heap.size, 0, none⟩ (.int .i64 (k4)))) (Only.of_below ((Below.refl w.heap.size w4).setCell hww _))
      have hy5 := hy4.set0 (v := k4)
      have hx5 := hx4.other (c := w1.heap.size) (i := 0) (v := k4) hwn
      obtain ⟨y0, y1, y2, y3, y4, yf0, yf1, yf2, yf3, yf4⟩ := id hy4
      obtain ⟨x0, x1, x2, x3, x4, xf0, xf1, xf2, xf3, xf4⟩ := id hx4
      go_wp2
      refine bodyPost_ret (v := .agg #[.int .i64 (k4), .int .i64 (t.2.1), .int .i64 (t.2.2.1), .int .i64 (t.2.2.2.1), .int .i64 (t.2.2.2.2)]) (by simp [results, Try.results65, go_sem, x0, x1, x2, x3, x4]) rfl ⟨(k4, t.2.1, t.2.2.1, t.2.2.2.1, t.2.2.2.2), rfl, ?_⟩
      exact ⟨⟨by dsimp only; omega, by dsimp only; omega⟩, (fin5 (k4, t.2.1, t.2.2.1, t.2.2.2.1, t.2.2.2.2) hg hr5 ho5).1.mono (by omega), (fin5 (k4, t.2.1, t.2.2.1, t.2.2.2.1, t.2.2.2.2) hg hr5 ho5).2⟩
    · skip
      by_cases c2 : k3 = 2
      · have d0 : ((k3 : Int) == 0) = false := by simp; omega
        have d1 : ((k3 : Int) == 1) = false := by simp; omega
        have d2 : ((k3 : Int) == 2) = true := by simp [c2]
        clear c2
        have hA4 := (Below.refl w3.heap.size w3).alloc (Nat.le_refl _) (.cells #[.int .i64 0, .int .i64 31, .int .i64 30] 3)
        have hs4 := sl_arr encI_len w3 #[.int .i64 0, .int .i64 31, .int .i64 30] 3 [0, 31, 30] rfl
        have hra4 := hr3.keep hA4
        have hxa4 := hx3.below hA4
        have hya4 := hy3.below hA4
        have hoa4 := ho3.trans ((Only.of_below hA4).mono ho3.size)
        go_wp2_with fail
        refine (one_c g _ _ _ _ 3 3 [0, 31, 30] _ hra4 (by omega) rfl (by omega) (by omega) hs4 hr3.lt (by simp)).mono ?_
        rintro e w4 ⟨k4, hk4, rfl, hr4, h4⟩
        have hx4 := hxa4.only h4 hgb
        have hy4 := hya4.only h4 hgy
        have ho4 := hoa4.trans (h4.mono hoa4.size)
        have hk4' : 0 ≤ k4 ∧ k4 ≤ 31 := by simp at hk4; omega
        clear hk4 h4 hs4 hA4 hra4 hxa4 hya4 hoa4
        have hr5 := hr4.below (w' := (w4.setCell ⟨w1.heap.size, 1, none⟩ (.int .i64 (k4)))) ((Below.refl (g + 1) w4).setCell hgw _) (by omega)
        have ho5 := ho4.trans (w' := (w4.setCell ⟨w1.heap.size, 1, none⟩ (.int .i64 (k4)))) (Only.of_below ((Below.refl w.heap.size w4).setCell hww _))
        have hy5 := hy4.set1 (v := k4)
        have hx5 := hx4.other (c := w1.heap.size) (i := 1) (v := k4) hwn
        obtain ⟨y0, y1, y2, y3, y4, yf0, yf1, yf2, yf3, yf4⟩ := id hy4
        obtain ⟨x0, x1, x2, x3, x4, xf0, xf1, xf2, xf3, xf4⟩ := id hx4
        go_wp2
        refine bodyPost_ret (v := .agg #[.int .i64 (t.1), .int .i64 (k4), .int .i64 (t.2.2.1), .int .i64 (t.2.2.2.1), .int .i64 (t.2.2.2.2)]) (by simp [results, Try.results65, go_sem, x0, x1, x2, x3, x4]) rfl ⟨(t.1, k4, t.2.2.1, t.2.2.2.1, t.2.2.2.2), rfl, ?_⟩
        exact ⟨⟨by dsimp only; omega, by dsimp only; omega⟩, (fin5 (t.1, k4, t.2.2.1, t.2.2.2.1, t.2.2.2.2) hg hr5 ho5).1.mono (by omega), (fin5 (t.1, k4, t.2.2.1, t.2.2.2.1, t.2.2.2.2) hg hr5 ho5).2⟩
      · skip
        by_cases c3 : k3 = 3
        · have d0 : ((k3 : Int) == 0) = false := by simp; omega
          have d1 : ((k3 : Int) == 1) = false := by simp; omega
          have d2 : ((k3 : Int) == 2) = false := by simp; omega
          have d3 : ((k3 : Int) == 3) = true := by simp [c3]
          clear c3
          have hA4 := (Below.refl w3.heap.size w3).alloc (Nat.le_refl _) (.cells #[.int .i64 0, .int .i64 6] 3)
          have hs4 := sl_arr encI_len w3 #[.int .i64 0, .int .i64 6] 3 [0, 6] rfl
          have hra4 := hr3.keep hA4
          have hxa4 := hx3.below hA4
          have hya4 := hy3.below hA4
          have hoa4 := ho3.trans ((Only.of_below hA4).mono ho3.size)
          go_wp2_with fail
          refine (one_c g _ _ _ _ 2 2 [0, 6] _ hra4 (by omega) rfl (by omega) (by omega) hs4 hr3.lt (by simp)).mono ?_
          rintro e w4 ⟨k4, hk4, rfl, hr4, h4⟩
          have hx4 := hxa4.only h4 hgb
          have hy4 := hya4.only h4 hgy
          have ho4 := hoa4.trans (h4.mono hoa4.size)
          have hk4' : 0 ≤ k4 ∧ k4 ≤ 6 := by simp at hk4; omega
          clear hk4 h4 hs4 hA4 hra4 hxa4 hya4 hoa4
          have hr5 := hr4.below (w' := (w4.setCell ⟨w1.heap.size, 2, none⟩ (.int .i64 (k4)))) ((Below.refl (g + 1) w4).setCell hgw _) (by omega)
          have ho5 := ho4.trans (w' := (w4.setCell ⟨w1.heap.size, 2, none⟩ (.int .i64 (k4)))) (Only.of_below ((Below.refl w.heap.size w4).setCell hww _))
          have hy5 := hy4.set2 (v := k4)
          have hx5 := hx4.other (c := w1.heap.size) (i := 2) (v := k4) hwn
          obtain ⟨y0, y1, y2, y3, y4, yf0, yf1, yf2, yf3, yf4⟩ := id hy4
          obtain ⟨x0, x1, x2, x3, x4, xf0, xf1, xf2, xf3, xf4⟩ := id hx4
          go_wp2
          refine bodyPost_ret (v := .agg #[.int .i64 (t.1), .int .i64 (t.2.1), .int .i64 (k4), .int .i64 (t.2.2.2.1), .int .i64 (t.2.2.2.2)]) (by simp [results, Try.results65, go_sem, x0, x1, x2, x3, x4]) rfl ⟨(t.1, t.2.1, k4, t.2.2.2.1, t.2.2.2.2), rfl, ?_⟩
          exact ⟨⟨by dsimp only; omega, by dsimp only; omega⟩, (fin5 (t.1, t.2.1, k4, t.2.2.2.1, t.2.2.2.2) hg hr5 ho5).1.mono (by omega), (fin5 (t.1, t.2.1, k4, t.2.2.2.1, t.2.2.2.2) hg hr5 ho5).2⟩
        · skip
          by_cases c4 : k3 = 4
          · have d0 : ((k3 : Int) == 0) = false := by simp; omega
            have d1 : ((k3 : Int) == 1) = false := by simp; omega
            have d2 : ((k3 : Int) == 2) = false := by simp; omega
            have d3 : ((k3 : Int) == 3) = false := by simp; omega
            have d4 : ((k3 : Int) == 4) = true := by simp [c4]
            clear c4
            have hA4 := (Below.refl w3.heap.size w3).alloc (Nat.le_refl _) (.cells #[.int .i64 (-2), .int .i64 2, .int .i64 5] 3)
            have hs4 := sl_arr encI_len w3 #[.int .i64 (-2), .int .i64 2, .int .i64 5] 3 [-2, 2, 5] rfl
            have hra4 := hr3.keep hA4
            have hxa4 := hx3.below hA4
            have hya4 := hy3.below hA4
            have hoa4 := ho3.trans ((Only.of_below hA4).mono ho3.size)
            go_wp2_with fail
            refine (one_c g _ _ _ _ 3 3 [-2, 2, 5] _ hra4 (by omega) rfl (by omega) (by omega) hs4 hr3.lt (by simp)).mono ?_
            rintro e w4 ⟨k4, hk4, rfl, hr4, h4⟩
            have hx4 := hxa4.only h4 hgb
            have hy4 := hya4.only h4 hgy
            have ho4 := hoa4.trans (h4.mono hoa4.size)
            have hk4' : -2 ≤ k4 ∧ k4 ≤ 5 := by simp at hk4; omega
            clear hk4 h4 hs4 hA4 hra4 hxa4 hya4 hoa4
            have hr5 := hr4.below (w' := (w4.setCell ⟨w1.heap.size, 3, none⟩ (.int .i64 (k4)))) ((Below.refl (g + 1) w4).setCell hgw _) (by omega)
            have ho5 := ho4.trans (w' := (w4.setCell ⟨w1.heap.size, 3, none⟩ (.int .i64 (k4)))) (Only.of_below ((Below.refl w.heap.size w4).setCell hww _))
            have hy5 := hy4.set3 (v := k4)
            have hx5 := hx4.other (c := w1.heap.size) (i := 3) (v := k4) hwn
            obtain ⟨y0, y1, y2, y3, y4, yf0, yf1, yf2, yf3, yf4⟩ := id hy4
            obtain ⟨x0, x1, x2, x3, x4, xf0, xf1, xf2, xf3, xf4⟩ := id hx4
            go_wp2
            refine bodyPost_ret (v := .agg #[.int .i64 (t.1), .int .i64 (t.2.1), .int .i64 (t.2.2.1), .int .i64 (k4), .int .i64 (t.2.2.2.2)]) (by simp [results, Try.results65, go_sem, x0, x1, x2, x3, x4]) rfl ⟨(t.1, t.2.1, t.2.2.1, k4, t.2.2.2.2), rfl, ?_⟩
            exact ⟨⟨by dsimp only; omega, by dsimp only; omega⟩, (fin5 (t.1, t.2.1, t.2.2.1, k4, t.2.2.2.2) hg hr5 ho5).1.mono (by omega), (fin5 (t.1, t.2.1, t.2.2.1, k4, t.2.2.2.2) hg hr5 ho5).2⟩
          · skip
            have d0 : ((k3 : Int) == 0) = false := by simp; omega
            have d1 : ((k3 : Int) == 1) = false := by simp; omega
            have d2 : ((k3 : Int) == 2) = false := by simp; omega
            have d3 : ((k3 : Int) == 3) = false := by simp; omega
            have d4 : ((k3 : Int) == 4) = false := by simp; omega
            obtain ⟨y0, y1, y2, y3, y4, yf0, yf1, yf2, yf3, yf4⟩ := id hy3
            obtain ⟨x0, x1, x2, x3, x4, xf0, xf1, xf2, xf3, xf4⟩ := id hx3
            go_wp2
            refine bodyPost_ret (v := .agg #[.int .i64 (t.1), .int .i64 (t.2.1), .int .i64 (t.2.2.1), .int .i64 (t.2.2.2.1), .int .i64 (t.2.2.2.2)]) (by simp [results, Try.results65, go_sem, x0, x1, x2, x3, x4]) rfl ⟨(t.1, t.2.1, t.2.2.1, t.2.2.2.1, t.2.2.2.2), rfl, ?_⟩
            exact ⟨⟨by dsimp only; omega, by dsimp only; omega⟩, (fin5 (t.1, t.2.1, t.2.2.1, t.2.2.2.1, t.2.2.2.2) hg hr3 ho3).1.mono (by omega), (fin5 (t.1, t.2.1, t.2.2.1, t.2.2.2.1, t.2.2.2.2) hg hr3 ho3).2⟩
set_option maxHeartbeats 2000000 in
theorem l20Reply_c (g P : Nat) (num : Int) (w : World) (hr : Rd w g P) (hP : P ≤ 100000) (hn0 : 0 ≤ num) (hn1 : num ≤ 1000) :
    Calls Try.prog 60 #[.pointer (some ⟨g, 0, none⟩), .int .i64 num] w fun e w' => ∃ t : ReplyT, e = .returned (.agg #[.int .i64 t.1, .int .i64 t.2.1, .int .i64 t.2.2.1, .int .i64 t.2.2.2]) ∧ Rd w' g (P + 20) ∧ Only w.heap.size (some g) w w' := by
  have hg := hr.lt
  have hgb : some g ≠ some w.heap.size := by intro h; injection h with h; omega
  have hb0 : Below w.heap.size w (w.alloc (.cells #[.int .i64 0, .int .i64 0, .int .i64 0, .int .i64 0] 37)) := (Below.refl _ _).alloc (Nat.le_refl _) _
  have hx0 := Box4.made w 0 0 0 0 37
  have hr0 := hr.keep hb0
  have ho0 : Only w.heap.size (some g) w (w.alloc (.cells #[.int .i64 0, .int .i64 0, .int .i64 0, .int .i64 0] 37)) := Only.of_below hb0
  go_enter Try.func60, Try.ntmps60
  go_wp2_with fail
  generalize w.alloc (.cells #[.int .i64 0, .int .i64 0, .int .i64 0, .int .i64 0] 37) = w0 at *
  refine (pick_c g _ 4 w0 hr0 (by omega) (by omega)).mono ?_
  rintro e w1 ⟨k1, rfl, hk1, hr1, h1⟩
  have hx1 := hx0.only h1 hgb
  have ho1 := ho0.trans (h1.mono ho0.size)
  have hk1' : (k1 : Int) ≤ 3 := by have := hk1.1 (by omega); omega
  clear hk1 h1
  have hA2 := (Below.refl w1.heap.size w1).alloc (Nat.le_refl _) (.cells #[.int .i64 0, .int .i64 0, .int .i64 3, .int .i64 6] 3)
  have hs2 := sl_arr encI_len w1 #[.int .i64 0, .int .i64 0, .int .i64 3, .int .i64 6] 3 [0, 0, 3, 6] rfl
  have hra2 := hr1.keep hA2
  have hxa2 := hx1.below hA2
  have hoa2 := ho1.trans ((Only.of_below hA2).mono ho1.size)
  go_wp2_with fail
  refine (one_c g _ _ _ _ 4 4 [0, 0, 3, 6] _ hra2 (by omega) rfl (by omega) (by omega) hs2 hr1.lt (by simp)).mono ?_
  rintro e w2 ⟨k2, hk2, rfl, hr2, h2⟩
  have hx2 := hxa2.only h2 hgb
  have ho2 := hoa2.trans (h2.mono hoa2.size)
  clear hk2 h2 hs2 hA2 hra2 hxa2 hoa2
  have hA3 := (Below.refl w2.heap.size w2).alloc (Nat.le_refl _) (.cells #[.int .i64 7, .int .i64 7, .int .i64 9] 3)
  have hs3 := sl_arr encI_len w2 #[.int .i64 7, .int .i64 7, .int .i64 9] 3 [7, 7, 9] rfl
  have hra3 := hr2.keep hA3
  have hxa3 := hx2.below hA3
  have hoa3 := ho2.trans ((Only.of_below hA3).mono ho2.size)
  go_wp2_with fail
  refine (one_c g _ _ _ _ 3 3 [7, 7, 9] _ hra3 (by omega) rfl (by omega) (by omega) hs3 hr2.lt (by simp)).mono ?_
  rintro e w3 ⟨k3, hk3, rfl, hr3, h3⟩
  have hx3 := hxa3.only h3 hgb
  have ho3 := hoa3.trans (h3.mono hoa3.size)
  clear hk3 h3 hs3 hA3 hra3 hxa3 hoa3
  have hA := (Below.refl w3.heap.size w3).alloc (Nat.le_refl _) (.cells #[.int .i64 (k1 : Int), .int .i64 num, .int .i64 k2, .int .i64 k3] 37)
  have hy4 := Box4.made w3 (k1 : Int) num k2 k3 37
  have hx4 := hx3.below hA
  have hr4 := hr3.keep hA
  have ho4 := ho3.trans ((Only.of_below hA).mono ho3.size)
  have hgy : some g ≠ some w3.heap.size := by intro h; injection h with h; have := hr3.lt; omega
  have hgw : g + 1 ≤ w3.heap.size := hr3.lt
  have hww : w.heap.size ≤ w3.heap.size := ho3.size
  have hwn : w.heap.size ≠ w3.heap.size := by have := hx3.lt; omega
  clear hr0 hr1 hr2 hr3 hx0 hx1 hx2 hx3 ho0 ho1 ho2 ho3 hA hb0 hr
  go_wp2_with fail
  generalize w3.alloc (.cells #[.int .i64 (k1 : Int), .int .i64 num, .int .i64 k2, .int .i64 k3] 37) = w4 at *
  refine (pick_c g _ 12 w4 hr4 (by omega) (by omega)).mono ?_
  rintro e w5 ⟨k5, rfl, hk5, hr5, h5⟩
  have hx5 := hx4.only h5 hgb
  have hy5 := hy4.only h5 hgy
  have ho5 := ho4.trans (h5.mono ho4.size)
  clear hk5 h5 hr4 hx4 hy4 ho4
  by_cases c0 : k5 = 0
  · have d0 : ((k5 : Int) == 0) = true := by simp [c0]
    clear c0
    have hr6 := hr5.below (w' := (w5.setCell ⟨w3.heap.size, 1, none⟩ (.int .i64 (num + 1)))) ((Below.refl (g + 1) w5).setCell hgw _) (by omega)
    have ho6 := ho5.trans (w' := (w5.setCell ⟨w3.heap.size, 1, none⟩ (.int .i64 (num + 1)))) (Only.of_below ((Below.refl w.heap.size w5).setCell hww _))
    have hy6 := hy5.set1 (v := num + 1)
    have hx6 := hx5.other (c := w3.heap.size) (i := 1) (v := num + 1) hwn
    obtain ⟨y0, y1, y2, y3, yf0, yf1, yf2, yf3⟩ := id hy5
    obtain ⟨x0, x1, x2, x3, xf0, xf1, xf2, xf3⟩ := id hx5
    go_wp2
    refine bodyPost_ret (v := .agg #[.int .i64 ((k1 : Int)), .int .i64 (num + 1), .int .i64 (k2), .int .i64 (k3)]) (by simp [results, Try.results60, go_sem, x0, x1, x2, x3]) rfl ⟨((k1 : Int), num + 1, k2, k3), rfl, ?_⟩
    exact ⟨(fin4 ((k1 : Int), num + 1, k2, k3) hg hr6 ho6).1.mono (by omega), (fin4 ((k1 : Int), num + 1, k2, k3) hg hr6 ho6).2⟩
  · skip
    by_cases c1 : k5 = 1
    · have d0 : ((k5 : Int) == 0) = false := by simp; omega
      have d1 : ((k5 : Int) == 1) = true := by simp [c1]
      clear c1
      have hA6 := (Below.refl w5.heap.size w5).alloc (Nat.le_refl _) (.cells #[.int .i64 (-1), .int .i64 4] 3)
      have hs6 := sl_arr encI_len w5 #[.int .i64 (-1), .int .i64 4] 3 [-1, 4] rfl
      have hra6 := hr5.keep hA6
      have hxa6 := hx5.below hA6
      have hya6 := hy5.below hA6
      have hoa6 := ho5.trans ((Only.of_below hA6).mono ho5.size)
      go_wp2_with fail
      refine (one_c g _ _ _ _ 2 2 [-1, 4] _ hra6 (by omega) rfl (by omega) (by omega) hs6 hr5.lt (by simp)).mono ?_
      rintro e w6 ⟨k6, hk6, rfl, hr6, h6⟩
      have hx6 := hxa6.only h6 hgb
      have hy6 := hya6.only h6 hgy
      have ho6 := hoa6.trans (h6.mono hoa6.size)
      have hk6' : -1 ≤ k6 ∧ k6 ≤ 4 := by simp at hk6; omega
      clear hk6 h6 hs6 hA6 hra6 hxa6 hya6 hoa6
      have hr7 := hr6.below (w' := (w6.setCell ⟨w3.heap.size, 0, none⟩ (.int .i64 (k6)))) ((Below.refl (g + 1) w6).setCell hgw _) (by omega)
      have ho7 := ho6.trans (w' := (w6.setCell ⟨w3.heap.size, 0, none⟩ (.int .i64 (k6)))) (Only.of_below ((Below.refl w.heap.size w6).setCell hww _))
      have hy7 := hy6.set0 (v := k6)
      have hx7 := hx6.other (c := w3.heap.size) (i := 0) (v := k6) hwn
      obtain ⟨y0, y1, y2, y3, yf0, yf1, yf2, yf3⟩ := id hy6
      obtain ⟨x0, x1, x2, x3, xf0, xf1, xf2, xf3⟩ := id hx6
      go_wp2
      refine bodyPost_ret (v := .agg #[.int .i64 (k6), .int .i64 (num), .int .i64 (k2), .int .i64 (k3)]) (by simp [results, Try.results60, go_sem, x0, x1, x2, x3]) rfl ⟨(k6, num, k2, k3), rfl, ?_⟩
      exact ⟨(fin4 (k6, num, k2, k3) hg hr7 ho7).1.mono (by omega), (fin4 (k6, num, k2, k3) hg hr7 ho7).2⟩
    · skip
      by_cases c2 : k5 = 2
      · have d0 : ((k5 : Int) == 0) = false := by simp; omega
        have d1 : ((k5 : Int) == 1) = false := by simp; omega
        have d2 : ((k5 : Int) == 2) = true := by simp [c2]
        clear c2
        have hA6 := (Below.refl w5.heap.size w5).alloc (Nat.le_refl _) (.cells #[.int .i64 (-1), .int .i64 4294967296] 3)
        have hs6 := sl_arr encI_len w5 #[.int .i64 (-1), .int .i64 4294967296] 3 [-1, 4294967296] rfl
        have hra6 := hr5.keep hA6
        have hxa6 := hx5.below hA6
        have hya6 := hy5.below hA6
        have hoa6 := ho5.trans ((Only.of_below hA6).mono ho5.size)
        go_wp2_with fail
        refine (one_c g _ _ _ _ 2 2 [-1, 4294967296] _ hra6 (by omega) rfl (by omega) (by omega) hs6 hr5.lt (by simp)).mono ?_
        rintro e w6 ⟨k6, hk6, rfl, hr6, h6⟩
        have hx6 := hxa6.only h6 hgb
        have hy6 := hya6.only h6 hgy
        have ho6 := hoa6.trans (h6.mono hoa6.size)
        have hk6' : -1 ≤ k6 ∧ k6 ≤ 4294967296 := by simp at hk6; omega
        clear hk6 h6 hs6 hA6 hra6 hxa6 hya6 hoa6
        have hr7 := hr6.below (w' := (w6.setCell ⟨w3.heap.size, 3, none⟩ (.int .i64 (k6)))) ((Below.refl (g + 1) w6).setCell hgw _) (by omega)
        have ho7 := ho6.trans (w' := (w6.setCell ⟨w3.heap.size, 3, none⟩ (.int .i64 (k6)))) (Only.of_below ((Below.refl w.heap.size w6).setCell hww _))
        have hy7 := hy6.set3 (v := k6)
        have hx7 := hx6.other (c := w3.heap.size) (i := 3) (v := k6) hwn
        obtain ⟨y0, y1, y2, y3, yf0, yf1, yf2, yf3⟩ := id hy6
        obtain ⟨x0, x1, x2, x3, xf0, xf1, xf2, xf3⟩ := id hx6
        go_wp2
        refine bodyPost_ret (v := .agg #[.int .i64 ((k1 : Int)), .int .i64 (num), .int .i64 (k2), .int .i64 (k6)]) (by simp [results, Try.results60, go_sem, x0, x1, x2, x3]) rfl ⟨((k1 : Int), num, k2, k6), rfl, ?_⟩
        exact ⟨(fin4 ((k1 : Int), num, k2, k6) hg hr7 ho7).1.mono (by omega), (fin4 ((k1 : Int), num, k2, k6) hg hr7 ho7).2⟩
      · skip
        have d0 : ((k5 : Int) == 0) = false := by simp; omega
        have d1 : ((k5 : Int) == 1) = false := by simp; omega
        have d2 : ((k5 : Int) == 2) = false := by simp; omega
        obtain ⟨y0, y1, y2, y3, yf0, yf1, yf2, yf3⟩ := id hy5
        obtain ⟨x0, x1, x2, x3, xf0, xf1, xf2, xf3⟩ := id hx5
        go_wp2
        refine bodyPost_ret (v := .agg #[.int .i64 ((k1 : Int)), .int .i64 (num), .int .i64 (k2), .int .i64 (k3)]) (by simp [results, Try.results60, go_sem, x0, x1, x2, x3]) rfl ⟨((k1 : Int), num, k2, k3), rfl, ?_⟩
        exact ⟨(fin4 ((k1 : Int), num, k2, k3) hg hr5 ho5).1.mono (by omega), (fin4 ((k1 : Int), num, k2, k3) hg hr5 ho5).2⟩
end Go.Proofs.Ytchofialljhojaa
