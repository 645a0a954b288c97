/-
  The walk of 'FnExactQueueNext'.
-/
import Derived.Test.YtaklfalkpkifmaaQL
import Derived.Test.YtaklfalkpkifmaaOpen
namespace Go.Proofs.Ytaklfalkpkifmaa
open Go.RowKit Rg
set_option linter.unusedVariables false
theorem nextL_len (xs : List Tm) (h : xs.length ≤ 1048576) : (nextL xs).1.length ≤ 1048576 := by
  unfold nextL
  split
  · rename_i h1
    show (popL xs h1.2).length ≤ _
    unfold popL
    rw [sinkAt_len]
    simp; omega
  · simp
theorem eqTimedSame_c (t : Tm) (w : World) : Calls Try.prog 26 #[.agg #[.int .i64 t.1, .int .i64 t.2.1, .int .i64 t.2.2], .agg #[.int .i64 t.1, .int .i64 t.2.1, .int .i64 t.2.2]] w fun e w' => e = .returned (.bool true) ∧ Below w.heap.size w w' := by
  have := eqTimed_c t.1 t.2.1 t.2.2 t.1 t.2.1 t.2.2 w
  simpa using this

set_option maxHeartbeats 2000000 in
theorem lawQueueNext (A : Option Addr) (n c : Nat) (xs : List Tm) (w : World) (hn : n = xs.length) (hc : n ≤ c) (hcm : c ≤ maxLen) (hs : Sl encT 3 w 0 w.heap.size A xs) :
    Calls Try.prog 6 #[.slice A n c] w fun e w' => e = .returned (.bool true) ∧ Below w.heap.size w w' := by
  have hn' := hide hn
  clear hn
  have hnm : n ≤ maxLen := Nat.le_trans hc hcm
  by_cases hb : n ≤ 1048576
  · have hbx : xs.length ≤ 1048576 := by have := hn'.out; omega
    have hbL := nextL_len xs hbx
    have hb2 : ((nextL xs).2.2 == (nextL xs).2.2) = true := by simp
    go_enter Try.func6, Try.ntmps6
    go_wp2_with fail
    refine (sz_c A n c _ hnm).mono ?_
    rintro e w0 ⟨rfl, hw0⟩
    simp only [hb, if_true]
    have hW : Below w.heap.size w w0 := hw0 ▸ Below.refl _ _
    clear hw0
    go_wp2_with fail
    refine (toTimedS_c A n c 0 _ xs w0 hn'.out hb (hs.below hW (Nat.le_refl _)) hW.size).mono ?_
    rintro e w1 ⟨vp, rfl, hop, hb1⟩
    have hB1 : Below w.heap.size w w1 := hW.trans (hb1.mono hW.size)
    obtain ⟨Ap, cAp, rfl, _, _, _⟩ := (hop.mono hW.size).form
    have p_1 := (hop.mono hW.size)
    have hb1 := hb1
    go_wp2_with fail
    refine (specQueueNext_c Ap xs.length cAp _ _ xs _ rfl hbx (p_1.slAt encT_len).2.2 (Nat.le_refl _)).mono ?_
    rintro e w2 ⟨vw, rfl, how, hb2⟩
    have hB2 : Below w.heap.size w w2 := hB1.trans (hb2.mono hB1.size)
    have p_2 := p_1.below hb2 (Nat.le_refl _)
    obtain ⟨Aw, cAw, rfl, _, _, _⟩ := (how.mono hB1.size).form
    have w_2 := (how.mono hB1.size)
    have ne_p_w : ∀ b, (Value.slice Ap xs.length cAp).ownBlock = some b → (Value.slice Aw (nextL xs).1.length cAw).ownBlock = some b → False := fun b h1 h2 => (by have g1 := (p_1.lt b h1).2; have g2 := (how.lt b h2).1; omega)
    have hb2 := hb2
    go_wp2_with fail
    have hA3 := (Below.refl w2.heap.size w2).alloc (Nat.le_refl _) (.cells #[.int .i64 (nextL xs).2.1.1, .int .i64 (nextL xs).2.1.2.1, .int .i64 (nextL xs).2.1.2.2] 31)
    have hB3 := hB2.trans (hA3.mono hB2.size)
    have p_3 := p_2.alloc (.cells #[.int .i64 (nextL xs).2.1.1, .int .i64 (nextL xs).2.1.2.1, .int .i64 (nextL xs).2.1.2.2] 31)
    have w_3 := w_2.alloc (.cells #[.int .i64 (nextL xs).2.1.1, .int .i64 (nextL xs).2.1.2.1, .int .i64 (nextL xs).2.1.2.2] 31)
    have bw1_3 : (w2.alloc (.cells #[.int .i64 (nextL xs).2.1.1, .int .i64 (nextL xs).2.1.2.1, .int .i64 (nextL xs).2.1.2.2] 31)).cell? ⟨w2.heap.size, 0, none⟩ = some (.int .i64 (nextL xs).2.1.1) := by simp
    have bw2_3 : (w2.alloc (.cells #[.int .i64 (nextL xs).2.1.1, .int .i64 (nextL xs).2.1.2.1, .int .i64 (nextL xs).2.1.2.2] 31)).cell? ⟨w2.heap.size, 1, none⟩ = some (.int .i64 (nextL xs).2.1.2.1) := by simp
    have bw3_3 : (w2.alloc (.cells #[.int .i64 (nextL xs).2.1.1, .int .i64 (nextL xs).2.1.2.1, .int .i64 (nextL xs).2.1.2.2] 31)).cell? ⟨w2.heap.size, 2, none⟩ = some (.int .i64 (nextL xs).2.1.2.2) := by simp
    have neb_p_bw : ∀ b, (Value.slice Ap xs.length cAp).ownBlock = some b → b = w2.heap.size → False := fun b h1 h2 => (by have g1 := (p_2.lt b h1).2; omega)
    have neb_w_bw : ∀ b, (Value.slice Aw (nextL xs).1.length cAw).ownBlock = some b → b = w2.heap.size → False := fun b h1 h2 => (by have g1 := (w_2.lt b h1).2; omega)
    generalize w2.alloc (.cells #[.int .i64 (nextL xs).2.1.1, .int .i64 (nextL xs).2.1.2.1, .int .i64 (nextL xs).2.1.2.2] 31) = w3 at *
    refine (toTimedS_c A n c 0 _ xs w3 hn'.out hb (hs.below hB3 (Nat.le_refl _)) hB3.size).mono ?_
    rintro e w4 ⟨vx, rfl, hox, hb4⟩
    have hB4 : Below w.heap.size w w4 := hB3.trans (hb4.mono hB3.size)
    have p_4 := p_3.below hb4 (Nat.le_refl _)
    have w_4 := w_3.below hb4 (Nat.le_refl _)
    have bw1_4 := keepc hb4 bw1_3
    have bw2_4 := keepc hb4 bw2_3
    have bw3_4 := keepc hb4 bw3_3
    obtain ⟨Ax, cAx, rfl, _, _, _⟩ := (hox.mono hB3.size).form
    have x_4 := (hox.mono hB3.size)
    have ne_p_x : ∀ b, (Value.slice Ap xs.length cAp).ownBlock = some b → (Value.slice Ax xs.length cAx).ownBlock = some b → False := fun b h1 h2 => (by have g1 := (p_3.lt b h1).2; have g2 := (hox.lt b h2).1; omega)
    have ne_w_x : ∀ b, (Value.slice Aw (nextL xs).1.length cAw).ownBlock = some b → (Value.slice Ax xs.length cAx).ownBlock = some b → False := fun b h1 h2 => (by have g1 := (w_3.lt b h1).2; have g2 := (hox.lt b h2).1; omega)
    have neb_x_bw : ∀ b, (Value.slice Ax xs.length cAx).ownBlock = some b → b = w2.heap.size → False := fun b h1 h2 => (by have g1 := (hox.lt b h1).1; have g2 := lt_of_cell bw1_3; simp only at g2; omega)
    have hb4 := hb4
    go_wp2_with fail
    refine (QueueNext_c Ax xs.length cAx _ _ xs _ rfl hbx x_4.cap.1 x_4.cap.2 (x_4.slAt encT_len).2.2 (Nat.le_refl _)).mono ?_
    rintro e w5 ⟨vg, rfl, hog, hb5⟩
    have hB5 : Below w.heap.size w w5 := hB4.trans (hb5.mono hB4.size)
    have p_5 := p_4.below hb5 (Nat.le_refl _)
    have w_5 := w_4.below hb5 (Nat.le_refl _)
    have x_5 := x_4.below hb5 (Nat.le_refl _)
    have bw1_5 := keepc hb5 bw1_4
    have bw2_5 := keepc hb5 bw2_4
    have bw3_5 := keepc hb5 bw3_4
    obtain ⟨Ag, cAg, rfl, _, _, _⟩ := (hog.mono hB4.size).form
    have g_5 := (hog.mono hB4.size)
    have ne_p_g : ∀ b, (Value.slice Ap xs.length cAp).ownBlock = some b → (Value.slice Ag (nextL xs).1.length cAg).ownBlock = some b → False := fun b h1 h2 => (by have g1 := (p_4.lt b h1).2; have g2 := (hog.lt b h2).1; omega)
    have ne_w_g : ∀ b, (Value.slice Aw (nextL xs).1.length cAw).ownBlock = some b → (Value.slice Ag (nextL xs).1.length cAg).ownBlock = some b → False := fun b h1 h2 => (by have g1 := (w_4.lt b h1).2; have g2 := (hog.lt b h2).1; omega)
    have ne_x_g : ∀ b, (Value.slice Ax xs.length cAx).ownBlock = some b → (Value.slice Ag (nextL xs).1.length cAg).ownBlock = some b → False := fun b h1 h2 => (by have g1 := (x_4.lt b h1).2; have g2 := (hog.lt b h2).1; omega)
    have neb_g_bw : ∀ b, (Value.slice Ag (nextL xs).1.length cAg).ownBlock = some b → b = w2.heap.size → False := fun b h1 h2 => (by have g1 := (hog.lt b h1).1; have g2 := lt_of_cell bw1_4; simp only at g2; omega)
    have hb5 := hb5
    go_wp2_with fail
    have hA6 := (Below.refl w5.heap.size w5).alloc (Nat.le_refl _) (.cells #[.int .i64 (nextL xs).2.1.1, .int .i64 (nextL xs).2.1.2.1, .int .i64 (nextL xs).2.1.2.2] 31)
    have hB6 := hB5.trans (hA6.mono hB5.size)
    have p_6 := p_5.alloc (.cells #[.int .i64 (nextL xs).2.1.1, .int .i64 (nextL xs).2.1.2.1, .int .i64 (nextL xs).2.1.2.2] 31)
    have w_6 := w_5.alloc (.cells #[.int .i64 (nextL xs).2.1.1, .int .i64 (nextL xs).2.1.2.1, .int .i64 (nextL xs).2.1.2.2] 31)
    have x_6 := x_5.alloc (.cells #[.int .i64 (nextL xs).2.1.1, .int .i64 (nextL xs).2.1.2.1, .int .i64 (nextL xs).2.1.2.2] 31)
    have g_6 := g_5.alloc (.cells #[.int .i64 (nextL xs).2.1.1, .int .i64 (nextL xs).2.1.2.1, .int .i64 (nextL xs).2.1.2.2] 31)
    have bw1_6 := keepc hA6 bw1_5
    have bw2_6 := keepc hA6 bw2_5
    have bw3_6 := keepc hA6 bw3_5
    have bg1_6 : (w5.alloc (.cells #[.int .i64 (nextL xs).2.1.1, .int .i64 (nextL xs).2.1.2.1, .int .i64 (nextL xs).2.1.2.2] 31)).cell? ⟨w5.heap.size, 0, none⟩ = some (.int .i64 (nextL xs).2.1.1) := by simp
    have bg2_6 : (w5.alloc (.cells #[.int .i64 (nextL xs).2.1.1, .int .i64 (nextL xs).2.1.2.1, .int .i64 (nextL xs).2.1.2.2] 31)).cell? ⟨w5.heap.size, 1, none⟩ = some (.int .i64 (nextL xs).2.1.2.1) := by simp
    have bg3_6 : (w5.alloc (.cells #[.int .i64 (nextL xs).2.1.1, .int .i64 (nextL xs).2.1.2.1, .int .i64 (nextL xs).2.1.2.2] 31)).cell? ⟨w5.heap.size, 2, none⟩ = some (.int .i64 (nextL xs).2.1.2.2) := by simp
    have neb_p_bg : ∀ b, (Value.slice Ap xs.length cAp).ownBlock = some b → b = w5.heap.size → False := fun b h1 h2 => (by have g1 := (p_5.lt b h1).2; omega)
    have neb_w_bg : ∀ b, (Value.slice Aw (nextL xs).1.length cAw).ownBlock = some b → b = w5.heap.size → False := fun b h1 h2 => (by have g1 := (w_5.lt b h1).2; omega)
    have neb_x_bg : ∀ b, (Value.slice Ax xs.length cAx).ownBlock = some b → b = w5.heap.size → False := fun b h1 h2 => (by have g1 := (x_5.lt b h1).2; omega)
    have neb_g_bg : ∀ b, (Value.slice Ag (nextL xs).1.length cAg).ownBlock = some b → b = w5.heap.size → False := fun b h1 h2 => (by have g1 := (g_5.lt b h1).2; omega)
    generalize w5.alloc (.cells #[.int .i64 (nextL xs).2.1.1, .int .i64 (nextL xs).2.1.2.1, .int .i64 (nextL xs).2.1.2.2] 31) = w6 at *
    refine (eqSame_c g_6 w_6 hbL).mono ?_
    rintro e w7 ⟨rfl, hb7⟩
    have hB7 : Below w.heap.size w w7 := hB6.trans (hb7.mono hB6.size)
    have p_7 := p_6.below hb7 (Nat.le_refl _)
    have w_7 := w_6.below hb7 (Nat.le_refl _)
    have x_7 := x_6.below hb7 (Nat.le_refl _)
    have g_7 := g_6.below hb7 (Nat.le_refl _)
    have bw1_7 := keepc hb7 bw1_6
    have bw2_7 := keepc hb7 bw2_6
    have bw3_7 := keepc hb7 bw3_6
    have bg1_7 := keepc hb7 bg1_6
    have bg2_7 := keepc hb7 bg2_6
    have bg3_7 := keepc hb7 bg3_6
    have hb7 := hb7
    go_wp2_with fail
    refine (eqTimedSame_c (nextL xs).2.1 _).mono ?_
    rintro e w8 ⟨rfl, hb8⟩
    have hB8 : Below w.heap.size w w8 := hB7.trans (hb8.mono hB7.size)
    have p_8 := p_7.below hb8 (Nat.le_refl _)
    have w_8 := w_7.below hb8 (Nat.le_refl _)
    have x_8 := x_7.below hb8 (Nat.le_refl _)
    have g_8 := g_7.below hb8 (Nat.le_refl _)
    have bw1_8 := keepc hb8 bw1_7
    have bw2_8 := keepc hb8 bw2_7
    have bw3_8 := keepc hb8 bw3_7
    have bg1_8 := keepc hb8 bg1_7
    have bg2_8 := keepc hb8 bg2_7
    have bg3_8 := keepc hb8 bg3_7
    have hb8 := hb8
    go_wp2_with fail
    refine (toTimedS_c A n c 0 _ xs w8 hn'.out hb (hs.below hB8 (Nat.le_refl _)) hB8.size).mono ?_
    rintro e w9 ⟨vy, rfl, hoy, hb9⟩
    have hB9 : Below w.heap.size w w9 := hB8.trans (hb9.mono hB8.size)
    have p_9 := p_8.below hb9 (Nat.le_refl _)
    have w_9 := w_8.below hb9 (Nat.le_refl _)
    have x_9 := x_8.below hb9 (Nat.le_refl _)
    have g_9 := g_8.below hb9 (Nat.le_refl _)
    have bw1_9 := keepc hb9 bw1_8
    have bw2_9 := keepc hb9 bw2_8
    have bw3_9 := keepc hb9 bw3_8
    have bg1_9 := keepc hb9 bg1_8
    have bg2_9 := keepc hb9 bg2_8
    have bg3_9 := keepc hb9 bg3_8
    obtain ⟨Ay, cAy, rfl, _, _, _⟩ := (hoy.mono hB8.size).form
    have y_9 := (hoy.mono hB8.size)
    have ne_p_y : ∀ b, (Value.slice Ap xs.length cAp).ownBlock = some b → (Value.slice Ay xs.length cAy).ownBlock = some b → False := fun b h1 h2 => (by have g1 := (p_8.lt b h1).2; have g2 := (hoy.lt b h2).1; omega)
    have ne_w_y : ∀ b, (Value.slice Aw (nextL xs).1.length cAw).ownBlock = some b → (Value.slice Ay xs.length cAy).ownBlock = some b → False := fun b h1 h2 => (by have g1 := (w_8.lt b h1).2; have g2 := (hoy.lt b h2).1; omega)
    have ne_x_y : ∀ b, (Value.slice Ax xs.length cAx).ownBlock = some b → (Value.slice Ay xs.length cAy).ownBlock = some b → False := fun b h1 h2 => (by have g1 := (x_8.lt b h1).2; have g2 := (hoy.lt b h2).1; omega)
    have ne_g_y : ∀ b, (Value.slice Ag (nextL xs).1.length cAg).ownBlock = some b → (Value.slice Ay xs.length cAy).ownBlock = some b → False := fun b h1 h2 => (by have g1 := (g_8.lt b h1).2; have g2 := (hoy.lt b h2).1; omega)
    have neb_y_bw : ∀ b, (Value.slice Ay xs.length cAy).ownBlock = some b → b = w2.heap.size → False := fun b h1 h2 => (by have g1 := (hoy.lt b h1).1; have g2 := lt_of_cell bw1_8; simp only at g2; omega)
    have neb_y_bg : ∀ b, (Value.slice Ay xs.length cAy).ownBlock = some b → b = w5.heap.size → False := fun b h1 h2 => (by have g1 := (hoy.lt b h1).1; have g2 := lt_of_cell bg1_8; simp only at g2; omega)
    have hb9 := hb9
    go_wp2_with fail
    refine (eqSame_c x_9 y_9 hbx).mono ?_
    rintro e w10 ⟨rfl, hb10⟩
    have hB10 : Below w.heap.size w w10 := hB9.trans (hb10.mono hB9.size)
    have p_10 := p_9.below hb10 (Nat.le_refl _)
    have w_10 := w_9.below hb10 (Nat.le_refl _)
    have x_10 := x_9.below hb10 (Nat.le_refl _)
    have g_10 := g_9.below hb10 (Nat.le_refl _)
    have y_10 := y_9.below hb10 (Nat.le_refl _)
    have bw1_10 := keepc hb10 bw1_9
    have bw2_10 := keepc hb10 bw2_9
    have bw3_10 := keepc hb10 bw3_9
    have bg1_10 := keepc hb10 bg1_9
    have bg2_10 := keepc hb10 bg2_9
    have bg3_10 := keepc hb10 bg3_9
    have hb10 := hb10
    go_wp2_with fail
    refine (markO_c (k := 1) (by omega) (by omega) x_10 hbx).mono ?_
    rintro e w11 ⟨rfl, hmx, hon11⟩
    have hB11 : Below w.heap.size w w11 := hB10.trans (hon11.toBelow hB10.size (fun k hk => (x_10.lt k hk).1))
    have p_11 := p_10.only hon11 (Nat.le_refl _) (fun b h1 h2 => ne_p_x b h1 h2)
    have w_11 := w_10.only hon11 (Nat.le_refl _) (fun b h1 h2 => ne_w_x b h1 h2)
    have g_11 := g_10.only hon11 (Nat.le_refl _) (fun b h1 h2 => ne_x_g b h2 h1)
    have y_11 := y_10.only hon11 (Nat.le_refl _) (fun b h1 h2 => ne_x_y b h2 h1)
    have x_11 := hmx
    have bw1_11 := hon11.keepc (fun h => neb_x_bw _ h rfl) bw1_10
    have bw2_11 := hon11.keepc (fun h => neb_x_bw _ h rfl) bw2_10
    have bw3_11 := hon11.keepc (fun h => neb_x_bw _ h rfl) bw3_10
    have bg1_11 := hon11.keepc (fun h => neb_x_bg _ h rfl) bg1_10
    have bg2_11 := hon11.keepc (fun h => neb_x_bg _ h rfl) bg2_10
    have bg3_11 := hon11.keepc (fun h => neb_x_bg _ h rfl) bg3_10
    have q1 : decide ((1 : Int) + 3 * (xs.length : Int) < 0) = false := by simp; omega
    go_wp2_with fail
    refine (eqSame_c g_11 w_11 hbL).mono ?_
    rintro e w12 ⟨rfl, hb12⟩
    have hB12 : Below w.heap.size w w12 := hB11.trans (hb12.mono hB11.size)
    have p_12 := p_11.below hb12 (Nat.le_refl _)
    have w_12 := w_11.below hb12 (Nat.le_refl _)
    have x_12 := x_11.below hb12 (Nat.le_refl _)
    have g_12 := g_11.below hb12 (Nat.le_refl _)
    have y_12 := y_11.below hb12 (Nat.le_refl _)
    have bw1_12 := keepc hb12 bw1_11
    have bw2_12 := keepc hb12 bw2_11
    have bw3_12 := keepc hb12 bw3_11
    have bg1_12 := keepc hb12 bg1_11
    have bg2_12 := keepc hb12 bg2_11
    have bg3_12 := keepc hb12 bg3_11
    have hb12 := hb12
    go_wp2_with fail
    refine (eqTimedSame_c (nextL xs).2.1 _).mono ?_
    rintro e w13 ⟨rfl, hb13⟩
    have hB13 : Below w.heap.size w w13 := hB12.trans (hb13.mono hB12.size)
    have p_13 := p_12.below hb13 (Nat.le_refl _)
    have w_13 := w_12.below hb13 (Nat.le_refl _)
    have x_13 := x_12.below hb13 (Nat.le_refl _)
    have g_13 := g_12.below hb13 (Nat.le_refl _)
    have y_13 := y_12.below hb13 (Nat.le_refl _)
    have bw1_13 := keepc hb13 bw1_12
    have bw2_13 := keepc hb13 bw2_12
    have bw3_13 := keepc hb13 bw3_12
    have bg1_13 := keepc hb13 bg1_12
    have bg2_13 := keepc hb13 bg2_12
    have bg3_13 := keepc hb13 bg3_12
    have hb13 := hb13
    go_wp2_with fail
    refine (markO_c (k := 1) (by omega) (by omega) g_13 hbL).mono ?_
    rintro e w14 ⟨rfl, hmg, hon14⟩
    have hB14 : Below w.heap.size w w14 := hB13.trans (hon14.toBelow hB13.size (fun k hk => (g_13.lt k hk).1))
    have p_14 := p_13.only hon14 (Nat.le_refl _) (fun b h1 h2 => ne_p_g b h1 h2)
    have w_14 := w_13.only hon14 (Nat.le_refl _) (fun b h1 h2 => ne_w_g b h1 h2)
    have x_14 := x_13.only hon14 (Nat.le_refl _) (fun b h1 h2 => ne_x_g b h1 h2)
    have y_14 := y_13.only hon14 (Nat.le_refl _) (fun b h1 h2 => ne_g_y b h2 h1)
    have g_14 := hmg
    have bw1_14 := hon14.keepc (fun h => neb_g_bw _ h rfl) bw1_13
    have bw2_14 := hon14.keepc (fun h => neb_g_bw _ h rfl) bw2_13
    have bw3_14 := hon14.keepc (fun h => neb_g_bw _ h rfl) bw3_13
    have bg1_14 := hon14.keepc (fun h => neb_g_bg _ h rfl) bg1_13
    have bg2_14 := hon14.keepc (fun h => neb_g_bg _ h rfl) bg2_13
    have bg3_14 := hon14.keepc (fun h => neb_g_bg _ h rfl) bg3_13
    go_wp2_with fail
    refine (heldO_c (k := 1) (by omega) (by omega) g_14 hbL).mono ?_
    rintro e w' ⟨rfl, rfl⟩
    have q2 : decide ((1 : Int) + 3 * ((nextL xs).1.length : Int) < 0) = false := by simp; omega
    go_wp2_with fail
    refine (toTimedS_c A n c 0 _ xs w14 hn'.out hb (hs.below hB14 (Nat.le_refl _)) hB14.size).mono ?_
    rintro e w15 ⟨vz, rfl, hoz, hb15⟩
    have hB15 : Below w.heap.size w w15 := hB14.trans (hb15.mono hB14.size)
    have p_15 := p_14.below hb15 (Nat.le_refl _)
    have w_15 := w_14.below hb15 (Nat.le_refl _)
    have x_15 := x_14.below hb15 (Nat.le_refl _)
    have g_15 := g_14.below hb15 (Nat.le_refl _)
    have y_15 := y_14.below hb15 (Nat.le_refl _)
    have bw1_15 := keepc hb15 bw1_14
    have bw2_15 := keepc hb15 bw2_14
    have bw3_15 := keepc hb15 bw3_14
    have bg1_15 := keepc hb15 bg1_14
    have bg2_15 := keepc hb15 bg2_14
    have bg3_15 := keepc hb15 bg3_14
    obtain ⟨Az, cAz, rfl, _, _, _⟩ := (hoz.mono hB14.size).form
    have z_15 := (hoz.mono hB14.size)
    have ne_p_z : ∀ b, (Value.slice Ap xs.length cAp).ownBlock = some b → (Value.slice Az xs.length cAz).ownBlock = some b → False := fun b h1 h2 => (by have g1 := (p_14.lt b h1).2; have g2 := (hoz.lt b h2).1; omega)
    have ne_w_z : ∀ b, (Value.slice Aw (nextL xs).1.length cAw).ownBlock = some b → (Value.slice Az xs.length cAz).ownBlock = some b → False := fun b h1 h2 => (by have g1 := (w_14.lt b h1).2; have g2 := (hoz.lt b h2).1; omega)
    have ne_x_z : ∀ b, (Value.slice Ax xs.length cAx).ownBlock = some b → (Value.slice Az xs.length cAz).ownBlock = some b → False := fun b h1 h2 => (by have g1 := (x_14.lt b h1).2; have g2 := (hoz.lt b h2).1; omega)
    have ne_g_z : ∀ b, (Value.slice Ag (nextL xs).1.length cAg).ownBlock = some b → (Value.slice Az xs.length cAz).ownBlock = some b → False := fun b h1 h2 => (by have g1 := (g_14.lt b h1).2; have g2 := (hoz.lt b h2).1; omega)
    have ne_y_z : ∀ b, (Value.slice Ay xs.length cAy).ownBlock = some b → (Value.slice Az xs.length cAz).ownBlock = some b → False := fun b h1 h2 => (by have g1 := (y_14.lt b h1).2; have g2 := (hoz.lt b h2).1; omega)
    have neb_z_bw : ∀ b, (Value.slice Az xs.length cAz).ownBlock = some b → b = w2.heap.size → False := fun b h1 h2 => (by have g1 := (hoz.lt b h1).1; have g2 := lt_of_cell bw1_14; simp only at g2; omega)
    have neb_z_bg : ∀ b, (Value.slice Az xs.length cAz).ownBlock = some b → b = w5.heap.size → False := fun b h1 h2 => (by have g1 := (hoz.lt b h1).1; have g2 := lt_of_cell bg1_14; simp only at g2; omega)
    have hb15 := hb15
    go_wp2_with fail
    refine (QueueNext_c Az xs.length cAz _ _ xs _ rfl hbx z_15.cap.1 z_15.cap.2 (z_15.slAt encT_len).2.2 (Nat.le_refl _)).mono ?_
    rintro e w16 ⟨vh, rfl, hoh, hb16⟩
    have hB16 : Below w.heap.size w w16 := hB15.trans (hb16.mono hB15.size)
    have p_16 := p_15.below hb16 (Nat.le_refl _)
    have w_16 := w_15.below hb16 (Nat.le_refl _)
    have x_16 := x_15.below hb16 (Nat.le_refl _)
    have g_16 := g_15.below hb16 (Nat.le_refl _)
    have y_16 := y_15.below hb16 (Nat.le_refl _)
    have z_16 := z_15.below hb16 (Nat.le_refl _)
    have bw1_16 := keepc hb16 bw1_15
    have bw2_16 := keepc hb16 bw2_15
    have bw3_16 := keepc hb16 bw3_15
    have bg1_16 := keepc hb16 bg1_15
    have bg2_16 := keepc hb16 bg2_15
    have bg3_16 := keepc hb16 bg3_15
    obtain ⟨Ah, cAh, rfl, _, _, _⟩ := (hoh.mono hB15.size).form
    have h_16 := (hoh.mono hB15.size)
    have ne_p_h : ∀ b, (Value.slice Ap xs.length cAp).ownBlock = some b → (Value.slice Ah (nextL xs).1.length cAh).ownBlock = some b → False := fun b h1 h2 => (by have g1 := (p_15.lt b h1).2; have g2 := (hoh.lt b h2).1; omega)
    have ne_w_h : ∀ b, (Value.slice Aw (nextL xs).1.length cAw).ownBlock = some b → (Value.slice Ah (nextL xs).1.length cAh).ownBlock = some b → False := fun b h1 h2 => (by have g1 := (w_15.lt b h1).2; have g2 := (hoh.lt b h2).1; omega)
    have ne_x_h : ∀ b, (Value.slice Ax xs.length cAx).ownBlock = some b → (Value.slice Ah (nextL xs).1.length cAh).ownBlock = some b → False := fun b h1 h2 => (by have g1 := (x_15.lt b h1).2; have g2 := (hoh.lt b h2).1; omega)
    have ne_g_h : ∀ b, (Value.slice Ag (nextL xs).1.length cAg).ownBlock = some b → (Value.slice Ah (nextL xs).1.length cAh).ownBlock = some b → False := fun b h1 h2 => (by have g1 := (g_15.lt b h1).2; have g2 := (hoh.lt b h2).1; omega)
    have ne_y_h : ∀ b, (Value.slice Ay xs.length cAy).ownBlock = some b → (Value.slice Ah (nextL xs).1.length cAh).ownBlock = some b → False := fun b h1 h2 => (by have g1 := (y_15.lt b h1).2; have g2 := (hoh.lt b h2).1; omega)
    have ne_z_h : ∀ b, (Value.slice Az xs.length cAz).ownBlock = some b → (Value.slice Ah (nextL xs).1.length cAh).ownBlock = some b → False := fun b h1 h2 => (by have g1 := (z_15.lt b h1).2; have g2 := (hoh.lt b h2).1; omega)
    have neb_h_bw : ∀ b, (Value.slice Ah (nextL xs).1.length cAh).ownBlock = some b → b = w2.heap.size → False := fun b h1 h2 => (by have g1 := (hoh.lt b h1).1; have g2 := lt_of_cell bw1_15; simp only at g2; omega)
    have neb_h_bg : ∀ b, (Value.slice Ah (nextL xs).1.length cAh).ownBlock = some b → b = w5.heap.size → False := fun b h1 h2 => (by have g1 := (hoh.lt b h1).1; have g2 := lt_of_cell bg1_15; simp only at g2; omega)
    have hb16 := hb16
    go_wp2_with fail
    have hA17 := (Below.refl w16.heap.size w16).alloc (Nat.le_refl _) (.cells #[.int .i64 (nextL xs).2.1.1, .int .i64 (nextL xs).2.1.2.1, .int .i64 (nextL xs).2.1.2.2] 31)
    have hB17 := hB16.trans (hA17.mono hB16.size)
    have p_17 := p_16.alloc (.cells #[.int .i64 (nextL xs).2.1.1, .int .i64 (nextL xs).2.1.2.1, .int .i64 (nextL xs).2.1.2.2] 31)
    have w_17 := w_16.alloc (.cells #[.int .i64 (nextL xs).2.1.1, .int .i64 (nextL xs).2.1.2.1, .int .i64 (nextL xs).2.1.2.2] 31)
    have x_17 := x_16.alloc (.cells #[.int .i64 (nextL xs).2.1.1, .int .i64 (nextL xs).2.1.2.1, .int .i64 (nextL xs).2.1.2.2] 31)
    have g_17 := g_16.alloc (.cells #[.int .i64 (nextL xs).2.1.1, .int .i64 (nextL xs).2.1.2.1, .int .i64 (nextL xs).2.1.2.2] 31)
    have y_17 := y_16.alloc (.cells #[.int .i64 (nextL xs).2.1.1, .int .i64 (nextL xs).2.1.2.1, .int .i64 (nextL xs).2.1.2.2] 31)
    have z_17 := z_16.alloc (.cells #[.int .i64 (nextL xs).2.1.1, .int .i64 (nextL xs).2.1.2.1, .int .i64 (nextL xs).2.1.2.2] 31)
    have h_17 := h_16.alloc (.cells #[.int .i64 (nextL xs).2.1.1, .int .i64 (nextL xs).2.1.2.1, .int .i64 (nextL xs).2.1.2.2] 31)
    have bw1_17 := keepc hA17 bw1_16
    have bw2_17 := keepc hA17 bw2_16
    have bw3_17 := keepc hA17 bw3_16
    have bg1_17 := keepc hA17 bg1_16
    have bg2_17 := keepc hA17 bg2_16
    have bg3_17 := keepc hA17 bg3_16
    have bh1_17 : (w16.alloc (.cells #[.int .i64 (nextL xs).2.1.1, .int .i64 (nextL xs).2.1.2.1, .int .i64 (nextL xs).2.1.2.2] 31)).cell? ⟨w16.heap.size, 0, none⟩ = some (.int .i64 (nextL xs).2.1.1) := by simp
    have bh2_17 : (w16.alloc (.cells #[.int .i64 (nextL xs).2.1.1, .int .i64 (nextL xs).2.1.2.1, .int .i64 (nextL xs).2.1.2.2] 31)).cell? ⟨w16.heap.size, 1, none⟩ = some (.int .i64 (nextL xs).2.1.2.1) := by simp
    have bh3_17 : (w16.alloc (.cells #[.int .i64 (nextL xs).2.1.1, .int .i64 (nextL xs).2.1.2.1, .int .i64 (nextL xs).2.1.2.2] 31)).cell? ⟨w16.heap.size, 2, none⟩ = some (.int .i64 (nextL xs).2.1.2.2) := by simp
    have neb_p_bh : ∀ b, (Value.slice Ap xs.length cAp).ownBlock = some b → b = w16.heap.size → False := fun b h1 h2 => (by have g1 := (p_16.lt b h1).2; omega)
    have neb_w_bh : ∀ b, (Value.slice Aw (nextL xs).1.length cAw).ownBlock = some b → b = w16.heap.size → False := fun b h1 h2 => (by have g1 := (w_16.lt b h1).2; omega)
    have neb_x_bh : ∀ b, (Value.slice Ax xs.length cAx).ownBlock = some b → b = w16.heap.size → False := fun b h1 h2 => (by have g1 := (x_16.lt b h1).2; omega)
    have neb_g_bh : ∀ b, (Value.slice Ag (nextL xs).1.length cAg).ownBlock = some b → b = w16.heap.size → False := fun b h1 h2 => (by have g1 := (g_16.lt b h1).2; omega)
    have neb_y_bh : ∀ b, (Value.slice Ay xs.length cAy).ownBlock = some b → b = w16.heap.size → False := fun b h1 h2 => (by have g1 := (y_16.lt b h1).2; omega)
    have neb_z_bh : ∀ b, (Value.slice Az xs.length cAz).ownBlock = some b → b = w16.heap.size → False := fun b h1 h2 => (by have g1 := (z_16.lt b h1).2; omega)
    have neb_h_bh : ∀ b, (Value.slice Ah (nextL xs).1.length cAh).ownBlock = some b → b = w16.heap.size → False := fun b h1 h2 => (by have g1 := (h_16.lt b h1).2; omega)
    generalize w16.alloc (.cells #[.int .i64 (nextL xs).2.1.1, .int .i64 (nextL xs).2.1.2.1, .int .i64 (nextL xs).2.1.2.2] 31) = w17 at *
    refine (eqSame_c h_17 w_17 hbL).mono ?_
    rintro e w18 ⟨rfl, hb18⟩
    have hB18 : Below w.heap.size w w18 := hB17.trans (hb18.mono hB17.size)
    have p_18 := p_17.below hb18 (Nat.le_refl _)
    have w_18 := w_17.below hb18 (Nat.le_refl _)
    have x_18 := x_17.below hb18 (Nat.le_refl _)
    have g_18 := g_17.below hb18 (Nat.le_refl _)
    have y_18 := y_17.below hb18 (Nat.le_refl _)
    have z_18 := z_17.below hb18 (Nat.le_refl _)
    have h_18 := h_17.below hb18 (Nat.le_refl _)
    have bw1_18 := keepc hb18 bw1_17
    have bw2_18 := keepc hb18 bw2_17
    have bw3_18 := keepc hb18 bw3_17
    have bg1_18 := keepc hb18 bg1_17
    have bg2_18 := keepc hb18 bg2_17
    have bg3_18 := keepc hb18 bg3_17
    have bh1_18 := keepc hb18 bh1_17
    have bh2_18 := keepc hb18 bh2_17
    have bh3_18 := keepc hb18 bh3_17
    have hb18 := hb18
    go_wp2_with fail
    refine (eqTimedSame_c (nextL xs).2.1 _).mono ?_
    rintro e w19 ⟨rfl, hb19⟩
    have hB19 : Below w.heap.size w w19 := hB18.trans (hb19.mono hB18.size)
    have p_19 := p_18.below hb19 (Nat.le_refl _)
    have w_19 := w_18.below hb19 (Nat.le_refl _)
    have x_19 := x_18.below hb19 (Nat.le_refl _)
    have g_19 := g_18.below hb19 (Nat.le_refl _)
    have y_19 := y_18.below hb19 (Nat.le_refl _)
    have z_19 := z_18.below hb19 (Nat.le_refl _)
    have h_19 := h_18.below hb19 (Nat.le_refl _)
    have bw1_19 := keepc hb19 bw1_18
    have bw2_19 := keepc hb19 bw2_18
    have bw3_19 := keepc hb19 bw3_18
    have bg1_19 := keepc hb19 bg1_18
    have bg2_19 := keepc hb19 bg2_18
    have bg3_19 := keepc hb19 bg3_18
    have bh1_19 := keepc hb19 bh1_18
    have bh2_19 := keepc hb19 bh2_18
    have bh3_19 := keepc hb19 bh3_18
    have hb19 := hb19
    go_wp2_with fail
    refine (heldO_c (k := 1) (by omega) (by omega) g_19 hbL).mono ?_
    rintro e w' ⟨rfl, rfl⟩
    go_wp2
    go_ret
    exact ⟨rfl, hB19⟩
  · go_enter Try.func6, Try.ntmps6
    go_wp2_with fail
    refine (sz_c A n c _ hnm).mono ?_
    rintro e w0 ⟨rfl, rfl⟩
    simp only [hb, if_false]
    go_wp2
    go_ret
    exact ⟨rfl, Below.refl _ _⟩

/-! ### The row of 'laws.FnExactQueueNext' -/
namespace FnExactQueueNext
open Go.ChangeShapes Go.WideShapes Go.ChangeAt Go.RowKit
theorem own : ownKnob Try.prog.godebug = none := by kernel_rfl
theorem laidOut : laidOutB Try.prog = true := by kernel_rfl

set_option maxRecDepth 100000 in
theorem lifted (os : Os) (started : os.Started) (H : Type) (enc : TypeId × Value → H) :
    ReturnsInHanded {} Try.checked os 6 .any (Rows.fnExactQueueNextSpec.pre6 enc Try.prog Try.f6 Rows.fnExactQueueNextRow.domain false) (Rows.fnExactQueueNextSpec.post enc Try.prog Try.f6 false true false false) := by
  refine returnsInHanded_of_change (C := Try.checked) own started (by kernel_rfl) Try.func6
    (ChangeSpec.witness6 (enc := enc) (C := Try.checked) false ⟨#[], #[.slice none 0 0], []⟩ 8 (by kernel_rfl) (by kernel_rfl) (by kernel_rfl) (by kernel_rfl)) ?_
  intro W base args ds gs before hval0 hW hcnd _
  have hval : ∀ (j : Nat) t v, Try.f6.params[j]? = some t → args[j]? = some v → Value.okWide Try.prog W .any base t v := hval0
  have hW' := hW
  obtain ⟨p, q, hA0, hV, rfl, hfz, hnd⟩ := hW
  have hA : DataW.TrodAll enc Try.prog W 0 (fun _ => true) true Try.f6.params.toList args.toList ds p := hA0
  rw [Try.params6] at hA hval
  obtain ⟨v0, vs0, d0, ds0, p0, q0, hargs, rfl, rfl, h0, r0⟩ := trodAll_cons hA
  obtain ⟨rfl, rfl, rfl⟩ := trodAll_nil r0
  obtain rfl : args = #[v0] := by cases args; simp_all
  obtain ⟨rfl, rfl⟩ := trodVars_none hV
  have k0 := h0
  have lt0 : ∀ x ∈ p0, x.block < W.heap.size := by obtain ⟨m, hm⟩ := k0; exact DataW.trod_lt m _ _ _ hm
  obtain ⟨A0, len0, cap0, z0, rfl, hl0, hc0, hm0, w0, g0⟩ : ∃ A len cap, ∃ xs : List Tm, v0 = .slice A len cap ∧ len = xs.length ∧ len ≤ cap ∧ cap ≤ maxLen ∧ Sl encT 3 W 0 W.heap.size A xs ∧ ∀ x ∈ xs, (fun _ => True) x := by
    obtain ⟨fuel, hf⟩ := h0
    obtain ⟨a0, len0, cap0, rfl⟩ := okWide_slice Try.underlying22 (hval 0 22 v0 rfl rfl)
    simp only [Value.cells] at hf
    exact trod_sl (encA := encT) (sz := 3) (Good := fun _ => True) Try.underlying22 (by kernel_rfl) (by omega) encT_len hf (fun n cs y hy => trod_int3 Try.underlying37 Try.underlying3 rfl (by kernel_rfl) (by kernel_rfl) (by kernel_rfl) hy)
  clear hA0 hval0
  refine (lawQueueNext A0 len0 cap0 z0 W hl0 hc0 hm0 w0).mono fun e W' ⟨he, bel⟩ => ?_
  subst he
  exact ⟨_, rfl, _, _, _, [], _, [], hW', trodAll_mk1 (shut_bool Try.underlying4 _), (trodAll_cons_mk (Below.trod laidOut (by kernel_rfl) (of_decide_eq_true (by kernel_rfl)) k0 bel lt0) trodAll_mk0), rfl, bel.frame _, fun h => by cases h⟩

theorem over : Rows.fnExactQueueNextRow.holds Try.pinned (OpenSpec.ofChange Rows.fnExactQueueNextSpec) :=
  OpenClaim.holds_of_wide 6 Try.f6 rfl rfl rfl rfl rfl rfl rfl ⟨rfl, rfl, rfl, rfl, rfl⟩ rfl rfl rfl rfl rfl (by kernel_rfl) Try.func6 (by kernel_rfl)
    (of_decide_eq_true (by kernel_rfl)) (by unfold Func.isWrapper; first | (rw [if_pos (by decide +kernel)]; kernel_rfl) | (rw [if_neg (by decide +kernel)]; exact ⟨rfl, rfl⟩))
    (fun os started H enc _ => lifted os started H enc)

theorem proved : Rows.FnExactQueueNextSaid := over
end FnExactQueueNext
end Go.Proofs.Ytaklfalkpkifmaa
