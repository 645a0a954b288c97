/-
  'FnExactQueueTill' returns true, for every slice of timed things and every time: both packages' 'QueueTill' answer alike.
  Conditions: none.
-/
import Derived.Test.YtaklfalkpkifmaaQS
import Derived.Test.YtaklfalkpkifmaaOpen
namespace Go.Proofs.Ytaklfalkpkifmaa
open Go.RowKit Rg
set_option linter.unusedVariables false
theorem tillL_len (at_ : Int) (m : Nat) : ∀ (xs done : List Tm), xs.length = m → (tillL at_ xs done).1.length + (tillL at_ xs done).2.length = xs.length + done.length := by
  induction m using Nat.strongRecOn with
  | _ m ih =>
    intro xs done hm
    by_cases h : 0 < xs.length
    · by_cases h2 : xs[0].1 ≤ at_
      · rw [tillL_step h h2]
        have := ih (xs.length - 1) (by omega) (popL xs h) (done ++ [xs[0]]) (popL_len xs h)
        rw [popL_len] at this
        simp at this ⊢
        omega
      · rw [tillL_stop h h2]
    · rw [tillL_end h]
theorem tillQ_len (at_ : Int) (xs : List Tm) (h : xs.length ≤ 1048576) : (tillQ at_ xs).1.length ≤ 1048576 ∧ (tillQ at_ xs).2.length ≤ 1048576 := by
  unfold tillQ
  split
  · have := tillL_len at_ _ xs [] rfl
    simp at this
    omega
  · simp

set_option maxHeartbeats 2000000 in
theorem lawQueueTill (A : Option Addr) (n c : Nat) (at_ : Int) (xs : List Tm) (w : World) (hn : n = xs.length) (hc : n ≤ c) (hcm : c ≤ maxLen) (hs : Sl encT 3 w 0 w.heap.size A xs) :
    Calls Try.prog 7 #[.slice A n c, .int .i64 at_] w fun e w' => e = .returned (.bool true) ∧ Below w.heap.size w w' := by
  have hn' := hide hn
  clear hn
  have hnm : n ≤ maxLen := Nat.le_trans hc hcm
  by_cases hb : n ≤ 1048576
  · have hbx : xs.length ≤ 1048576 := by have := hn'.out; omega
    obtain ⟨hbM, hbN⟩ := tillQ_len at_ xs hbx
    go_enter Try.func7, Try.ntmps7
    go_wp2_with fail
    refine (sz_c A n c _ hnm).mono ?_
    rintro e w0 ⟨rfl, hw0⟩
    simp only [hb, if_true]
    have hW : Below w.heap.size w w0 := hw0 ▸ Below.refl _ _
    clear hw0
    go_wp2_with fail
    refine (toTimedS_c A n c 0 _ xs w0 hn'.out hb (hs.below hW (Nat.le_refl _)) hW.size).mono ?_
    rintro e w1 ⟨vp, rfl, hop, hb1⟩
    have hB1 : Below w.heap.size w w1 := hW.trans (hb1.mono hW.size)
    obtain ⟨Ap, cAp, rfl, _, _, _⟩ := (hop.mono hW.size).form
    have p_1 := (hop.mono hW.size)
    have hb1 := hb1
    go_wp2_with fail
    refine (specQueueTill_c Ap xs.length cAp _ _ at_ xs _ rfl hbx (p_1.slAt encT_len).2.2 (Nat.le_refl _)).mono ?_
    rintro e w2 ⟨vw, vwd, rfl, how, howd, hb2⟩
    have hB2 : Below w.heap.size w w2 := hB1.trans (hb2.mono hB1.size)
    have p_2 := p_1.below hb2 (Nat.le_refl _)
    obtain ⟨Aw, cAw, rfl, _, _, _⟩ := (how.mono hB1.size).form
    have w_2 := (how.mono hB1.size)
    have ne_p_w : ∀ b, (Value.slice Ap xs.length cAp).ownBlock = some b → (Value.slice Aw (tillQ at_ xs).1.length cAw).ownBlock = some b → False := fun b h1 h2 => (by have g1 := (p_1.lt b h1).2; have g2 := (how.lt b h2).1; omega)
    obtain ⟨Awd, cAwd, rfl, _, _, _⟩ := (howd.mono hB1.size).form
    have wd_2 := (howd.mono hB1.size)
    have ne_p_wd : ∀ b, (Value.slice Ap xs.length cAp).ownBlock = some b → (Value.slice Awd (tillQ at_ xs).2.length cAwd).ownBlock = some b → False := fun b h1 h2 => (by have g1 := (p_1.lt b h1).2; have g2 := (howd.lt b h2).1; omega)
    have hb2 := hb2
    go_wp2_with fail
    refine (toTimedS_c A n c 0 _ xs w2 hn'.out hb (hs.below hB2 (Nat.le_refl _)) hB2.size).mono ?_
    rintro e w3 ⟨vx, rfl, hox, hb3⟩
    have hB3 : Below w.heap.size w w3 := hB2.trans (hb3.mono hB2.size)
    have p_3 := p_2.below hb3 (Nat.le_refl _)
    have w_3 := w_2.below hb3 (Nat.le_refl _)
    have wd_3 := wd_2.below hb3 (Nat.le_refl _)
    obtain ⟨Ax, cAx, rfl, _, _, _⟩ := (hox.mono hB2.size).form
    have x_3 := (hox.mono hB2.size)
    have ne_p_x : ∀ b, (Value.slice Ap xs.length cAp).ownBlock = some b → (Value.slice Ax xs.length cAx).ownBlock = some b → False := fun b h1 h2 => (by have g1 := (p_2.lt b h1).2; have g2 := (hox.lt b h2).1; omega)
    have ne_w_x : ∀ b, (Value.slice Aw (tillQ at_ xs).1.length cAw).ownBlock = some b → (Value.slice Ax xs.length cAx).ownBlock = some b → False := fun b h1 h2 => (by have g1 := (w_2.lt b h1).2; have g2 := (hox.lt b h2).1; omega)
    have ne_wd_x : ∀ b, (Value.slice Awd (tillQ at_ xs).2.length cAwd).ownBlock = some b → (Value.slice Ax xs.length cAx).ownBlock = some b → False := fun b h1 h2 => (by have g1 := (wd_2.lt b h1).2; have g2 := (hox.lt b h2).1; omega)
    have hb3 := hb3
    go_wp2_with fail
    refine (QueueTill_c Ax xs.length cAx _ _ at_ xs _ rfl hbx x_3.cap.1 x_3.cap.2 (x_3.slAt encT_len).2.2 (Nat.le_refl _)).mono ?_
    rintro e w4 ⟨vg, vgd, rfl, hog, hogd, hne_g_gd, hb4⟩
    have hB4 : Below w.heap.size w w4 := hB3.trans (hb4.mono hB3.size)
    have p_4 := p_3.below hb4 (Nat.le_refl _)
    have w_4 := w_3.below hb4 (Nat.le_refl _)
    have wd_4 := wd_3.below hb4 (Nat.le_refl _)
    have x_4 := x_3.below hb4 (Nat.le_refl _)
    obtain ⟨Ag, cAg, rfl, _, _, _⟩ := (hog.mono hB3.size).form
    have g_4 := (hog.mono hB3.size)
    have ne_p_g : ∀ b, (Value.slice Ap xs.length cAp).ownBlock = some b → (Value.slice Ag (tillQ at_ xs).1.length cAg).ownBlock = some b → False := fun b h1 h2 => (by have g1 := (p_3.lt b h1).2; have g2 := (hog.lt b h2).1; omega)
    have ne_w_g : ∀ b, (Value.slice Aw (tillQ at_ xs).1.length cAw).ownBlock = some b → (Value.slice Ag (tillQ at_ xs).1.length cAg).ownBlock = some b → False := fun b h1 h2 => (by have g1 := (w_3.lt b h1).2; have g2 := (hog.lt b h2).1; omega)
    have ne_wd_g : ∀ b, (Value.slice Awd (tillQ at_ xs).2.length cAwd).ownBlock = some b → (Value.slice Ag (tillQ at_ xs).1.length cAg).ownBlock = some b → False := fun b h1 h2 => (by have g1 := (wd_3.lt b h1).2; have g2 := (hog.lt b h2).1; omega)
    have ne_x_g : ∀ b, (Value.slice Ax xs.length cAx).ownBlock = some b → (Value.slice Ag (tillQ at_ xs).1.length cAg).ownBlock = some b → False := fun b h1 h2 => (by have g1 := (x_3.lt b h1).2; have g2 := (hog.lt b h2).1; omega)
    obtain ⟨Agd, cAgd, rfl, _, _, _⟩ := (hogd.mono hB3.size).form
    have gd_4 := (hogd.mono hB3.size)
    have ne_p_gd : ∀ b, (Value.slice Ap xs.length cAp).ownBlock = some b → (Value.slice Agd (tillQ at_ xs).2.length cAgd).ownBlock = some b → False := fun b h1 h2 => (by have g1 := (p_3.lt b h1).2; have g2 := (hogd.lt b h2).1; omega)
    have ne_w_gd : ∀ b, (Value.slice Aw (tillQ at_ xs).1.length cAw).ownBlock = some b → (Value.slice Agd (tillQ at_ xs).2.length cAgd).ownBlock = some b → False := fun b h1 h2 => (by have g1 := (w_3.lt b h1).2; have g2 := (hogd.lt b h2).1; omega)
    have ne_wd_gd : ∀ b, (Value.slice Awd (tillQ at_ xs).2.length cAwd).ownBlock = some b → (Value.slice Agd (tillQ at_ xs).2.length cAgd).ownBlock = some b → False := fun b h1 h2 => (by have g1 := (wd_3.lt b h1).2; have g2 := (hogd.lt b h2).1; omega)
    have ne_x_gd : ∀ b, (Value.slice Ax xs.length cAx).ownBlock = some b → (Value.slice Agd (tillQ at_ xs).2.length cAgd).ownBlock = some b → False := fun b h1 h2 => (by have g1 := (x_3.lt b h1).2; have g2 := (hogd.lt b h2).1; omega)
    have hb4 := hb4
    have ne_g_gd : ∀ b, (Value.slice Ag (tillQ at_ xs).1.length cAg).ownBlock = some b → (Value.slice Agd (tillQ at_ xs).2.length cAgd).ownBlock = some b → False := hne_g_gd
    go_wp2_with fail
    refine (eqSame_c g_4 w_4 hbM).mono ?_
    rintro e w5 ⟨rfl, hb5⟩
    have hB5 : Below w.heap.size w w5 := hB4.trans (hb5.mono hB4.size)
    have p_5 := p_4.below hb5 (Nat.le_refl _)
    have w_5 := w_4.below hb5 (Nat.le_refl _)
    have wd_5 := wd_4.below hb5 (Nat.le_refl _)
    have x_5 := x_4.below hb5 (Nat.le_refl _)
    have g_5 := g_4.below hb5 (Nat.le_refl _)
    have gd_5 := gd_4.below hb5 (Nat.le_refl _)
    have hb5 := hb5
    go_wp2_with fail
    refine (eqSame_c gd_5 wd_5 hbN).mono ?_
    rintro e w6 ⟨rfl, hb6⟩
    have hB6 : Below w.heap.size w w6 := hB5.trans (hb6.mono hB5.size)
    have p_6 := p_5.below hb6 (Nat.le_refl _)
    have w_6 := w_5.below hb6 (Nat.le_refl _)
    have wd_6 := wd_5.below hb6 (Nat.le_refl _)
    have x_6 := x_5.below hb6 (Nat.le_refl _)
    have g_6 := g_5.below hb6 (Nat.le_refl _)
    have gd_6 := gd_5.below hb6 (Nat.le_refl _)
    have hb6 := hb6
    go_wp2_with fail
    refine (toTimedS_c A n c 0 _ xs w6 hn'.out hb (hs.below hB6 (Nat.le_refl _)) hB6.size).mono ?_
    rintro e w7 ⟨vy, rfl, hoy, hb7⟩
    have hB7 : Below w.heap.size w w7 := hB6.trans (hb7.mono hB6.size)
    have p_7 := p_6.below hb7 (Nat.le_refl _)
    have w_7 := w_6.below hb7 (Nat.le_refl _)
    have wd_7 := wd_6.below hb7 (Nat.le_refl _)
    have x_7 := x_6.below hb7 (Nat.le_refl _)
    have g_7 := g_6.below hb7 (Nat.le_refl _)
    have gd_7 := gd_6.below hb7 (Nat.le_refl _)
    obtain ⟨Ay, cAy, rfl, _, _, _⟩ := (hoy.mono hB6.size).form
    have y_7 := (hoy.mono hB6.size)
    have ne_p_y : ∀ b, (Value.slice Ap xs.length cAp).ownBlock = some b → (Value.slice Ay xs.length cAy).ownBlock = some b → False := fun b h1 h2 => (by have g1 := (p_6.lt b h1).2; have g2 := (hoy.lt b h2).1; omega)
    have ne_w_y : ∀ b, (Value.slice Aw (tillQ at_ xs).1.length cAw).ownBlock = some b → (Value.slice Ay xs.length cAy).ownBlock = some b → False := fun b h1 h2 => (by have g1 := (w_6.lt b h1).2; have g2 := (hoy.lt b h2).1; omega)
    have ne_wd_y : ∀ b, (Value.slice Awd (tillQ at_ xs).2.length cAwd).ownBlock = some b → (Value.slice Ay xs.length cAy).ownBlock = some b → False := fun b h1 h2 => (by have g1 := (wd_6.lt b h1).2; have g2 := (hoy.lt b h2).1; omega)
    have ne_x_y : ∀ b, (Value.slice Ax xs.length cAx).ownBlock = some b → (Value.slice Ay xs.length cAy).ownBlock = some b → False := fun b h1 h2 => (by have g1 := (x_6.lt b h1).2; have g2 := (hoy.lt b h2).1; omega)
    have ne_g_y : ∀ b, (Value.slice Ag (tillQ at_ xs).1.length cAg).ownBlock = some b → (Value.slice Ay xs.length cAy).ownBlock = some b → False := fun b h1 h2 => (by have g1 := (g_6.lt b h1).2; have g2 := (hoy.lt b h2).1; omega)
    have ne_gd_y : ∀ b, (Value.slice Agd (tillQ at_ xs).2.length cAgd).ownBlock = some b → (Value.slice Ay xs.length cAy).ownBlock = some b → False := fun b h1 h2 => (by have g1 := (gd_6.lt b h1).2; have g2 := (hoy.lt b h2).1; omega)
    have hb7 := hb7
    go_wp2_with fail
    refine (eqSame_c x_7 y_7 hbx).mono ?_
    rintro e w8 ⟨rfl, hb8⟩
    have hB8 : Below w.heap.size w w8 := hB7.trans (hb8.mono hB7.size)
    have p_8 := p_7.below hb8 (Nat.le_refl _)
    have w_8 := w_7.below hb8 (Nat.le_refl _)
    have wd_8 := wd_7.below hb8 (Nat.le_refl _)
    have x_8 := x_7.below hb8 (Nat.le_refl _)
    have g_8 := g_7.below hb8 (Nat.le_refl _)
    have gd_8 := gd_7.below hb8 (Nat.le_refl _)
    have y_8 := y_7.below hb8 (Nat.le_refl _)
    have hb8 := hb8
    go_wp2_with fail
    refine (markO_c (k := 1) (by omega) (by omega) x_8 hbx).mono ?_
    rintro e w9 ⟨rfl, hmx, hon9⟩
    have hB9 : Below w.heap.size w w9 := hB8.trans (hon9.toBelow hB8.size (fun k hk => (x_8.lt k hk).1))
    have p_9 := p_8.only hon9 (Nat.le_refl _) (fun b h1 h2 => ne_p_x b h1 h2)
    have w_9 := w_8.only hon9 (Nat.le_refl _) (fun b h1 h2 => ne_w_x b h1 h2)
    have wd_9 := wd_8.only hon9 (Nat.le_refl _) (fun b h1 h2 => ne_wd_x b h1 h2)
    have g_9 := g_8.only hon9 (Nat.le_refl _) (fun b h1 h2 => ne_x_g b h2 h1)
    have gd_9 := gd_8.only hon9 (Nat.le_refl _) (fun b h1 h2 => ne_x_gd b h2 h1)
    have y_9 := y_8.only hon9 (Nat.le_refl _) (fun b h1 h2 => ne_x_y b h2 h1)
    have x_9 := hmx
    have q1 : decide ((1 : Int) + 3 * (xs.length : Int) < 0) = false := by simp; omega
    go_wp2_with fail
    refine (eqSame_c g_9 w_9 hbM).mono ?_
    rintro e w10 ⟨rfl, hb10⟩
    have hB10 : Below w.heap.size w w10 := hB9.trans (hb10.mono hB9.size)
    have p_10 := p_9.below hb10 (Nat.le_refl _)
    have w_10 := w_9.below hb10 (Nat.le_refl _)
    have wd_10 := wd_9.below hb10 (Nat.le_refl _)
    have x_10 := x_9.below hb10 (Nat.le_refl _)
    have g_10 := g_9.below hb10 (Nat.le_refl _)
    have gd_10 := gd_9.below hb10 (Nat.le_refl _)
    have y_10 := y_9.below hb10 (Nat.le_refl _)
    have hb10 := hb10
    go_wp2_with fail
    refine (eqSame_c gd_10 wd_10 hbN).mono ?_
    rintro e w11 ⟨rfl, hb11⟩
    have hB11 : Below w.heap.size w w11 := hB10.trans (hb11.mono hB10.size)
    have p_11 := p_10.below hb11 (Nat.le_refl _)
    have w_11 := w_10.below hb11 (Nat.le_refl _)
    have wd_11 := wd_10.below hb11 (Nat.le_refl _)
    have x_11 := x_10.below hb11 (Nat.le_refl _)
    have g_11 := g_10.below hb11 (Nat.le_refl _)
    have gd_11 := gd_10.below hb11 (Nat.le_refl _)
    have y_11 := y_10.below hb11 (Nat.le_refl _)
    have hb11 := hb11
    go_wp2_with fail
    refine (markO_c (k := 1) (by omega) (by omega) g_11 hbM).mono ?_
    rintro e w12 ⟨rfl, hmg, hon12⟩
    have hB12 : Below w.heap.size w w12 := hB11.trans (hon12.toBelow hB11.size (fun k hk => (g_11.lt k hk).1))
    have p_12 := p_11.only hon12 (Nat.le_refl _) (fun b h1 h2 => ne_p_g b h1 h2)
    have w_12 := w_11.only hon12 (Nat.le_refl _) (fun b h1 h2 => ne_w_g b h1 h2)
    have wd_12 := wd_11.only hon12 (Nat.le_refl _) (fun b h1 h2 => ne_wd_g b h1 h2)
    have x_12 := x_11.only hon12 (Nat.le_refl _) (fun b h1 h2 => ne_x_g b h1 h2)
    have gd_12 := gd_11.only hon12 (Nat.le_refl _) (fun b h1 h2 => ne_g_gd b h2 h1)
    have y_12 := y_11.only hon12 (Nat.le_refl _) (fun b h1 h2 => ne_g_y b h2 h1)
    have g_12 := hmg
    go_wp2_with fail
    refine (markO_c (k := 1 + 3 * ((tillQ at_ xs).1.length : Int)) (by omega) (by omega) gd_12 hbN).mono ?_
    rintro e w13 ⟨rfl, hmgd, hon13⟩
    have hB13 : Below w.heap.size w w13 := hB12.trans (hon13.toBelow hB12.size (fun k hk => (gd_12.lt k hk).1))
    have p_13 := p_12.only hon13 (Nat.le_refl _) (fun b h1 h2 => ne_p_gd b h1 h2)
    have w_13 := w_12.only hon13 (Nat.le_refl _) (fun b h1 h2 => ne_w_gd b h1 h2)
    have wd_13 := wd_12.only hon13 (Nat.le_refl _) (fun b h1 h2 => ne_wd_gd b h1 h2)
    have x_13 := x_12.only hon13 (Nat.le_refl _) (fun b h1 h2 => ne_x_gd b h1 h2)
    have g_13 := g_12.only hon13 (Nat.le_refl _) (fun b h1 h2 => ne_g_gd b h1 h2)
    have y_13 := y_12.only hon13 (Nat.le_refl _) (fun b h1 h2 => ne_gd_y b h2 h1)
    have gd_13 := hmgd
    go_wp2_with fail
    refine (heldO_c (k := 1) (by omega) (by omega) g_13 hbM).mono ?_
    rintro e w' ⟨rfl, rfl⟩
    have q2 : decide (1 + 3 * ((tillQ at_ xs).1.length : Int) < 0) = false := by simp; omega
    go_wp2_with fail
    refine (heldO_c (k := 1 + 3 * ((tillQ at_ xs).1.length : Int)) (by omega) (by omega) gd_13 hbN).mono ?_
    rintro e w' ⟨rfl, rfl⟩
    have q3 : decide (1 + 3 * ((tillQ at_ xs).1.length : Int) + 3 * ((tillQ at_ xs).2.length : Int) < 0) = false := by simp; omega
    go_wp2_with fail
    refine (toTimedS_c A n c 0 _ xs w13 hn'.out hb (hs.below hB13 (Nat.le_refl _)) hB13.size).mono ?_
    rintro e w14 ⟨vz, rfl, hoz, hb14⟩
    have hB14 : Below w.heap.size w w14 := hB13.trans (hb14.mono hB13.size)
    have p_14 := p_13.below hb14 (Nat.le_refl _)
    have w_14 := w_13.below hb14 (Nat.le_refl _)
    have wd_14 := wd_13.below hb14 (Nat.le_refl _)
    have x_14 := x_13.below hb14 (Nat.le_refl _)
    have g_14 := g_13.below hb14 (Nat.le_refl _)
    have gd_14 := gd_13.below hb14 (Nat.le_refl _)
    have y_14 := y_13.below hb14 (Nat.le_refl _)
    obtain ⟨Az, cAz, rfl, _, _, _⟩ := (hoz.mono hB13.size).form
    have z_14 := (hoz.mono hB13.size)
    have ne_p_z : ∀ b, (Value.slice Ap xs.length cAp).ownBlock = some b → (Value.slice Az xs.length cAz).ownBlock = some b → False := fun b h1 h2 => (by have g1 := (p_13.lt b h1).2; have g2 := (hoz.lt b h2).1; omega)
    have ne_w_z : ∀ b, (Value.slice Aw (tillQ at_ xs).1.length cAw).ownBlock = some b → (Value.slice Az xs.length cAz).ownBlock = some b → False := fun b h1 h2 => (by have g1 := (w_13.lt b h1).2; have g2 := (hoz.lt b h2).1; omega)
    have ne_wd_z : ∀ b, (Value.slice Awd (tillQ at_ xs).2.length cAwd).ownBlock = some b → (Value.slice Az xs.length cAz).ownBlock = some b → False := fun b h1 h2 => (by have g1 := (wd_13.lt b h1).2; have g2 := (hoz.lt b h2).1; omega)
    have ne_x_z : ∀ b, (Value.slice Ax xs.length cAx).ownBlock = some b → (Value.slice Az xs.length cAz).ownBlock = some b → False := fun b h1 h2 => (by have g1 := (x_13.lt b h1).2; have g2 := (hoz.lt b h2).1; omega)
    have ne_g_z : ∀ b, (Value.slice Ag (tillQ at_ xs).1.length cAg).ownBlock = some b → (Value.slice Az xs.length cAz).ownBlock = some b → False := fun b h1 h2 => (by have g1 := (g_13.lt b h1).2; have g2 := (hoz.lt b h2).1; omega)
    have ne_gd_z : ∀ b, (Value.slice Agd (tillQ at_ xs).2.length cAgd).ownBlock = some b → (Value.slice Az xs.length cAz).ownBlock = some b → False := fun b h1 h2 => (by have g1 := (gd_13.lt b h1).2; have g2 := (hoz.lt b h2).1; omega)
    have ne_y_z : ∀ b, (Value.slice Ay xs.length cAy).ownBlock = some b → (Value.slice Az xs.length cAz).ownBlock = some b → False := fun b h1 h2 => (by have g1 := (y_13.lt b h1).2; have g2 := (hoz.lt b h2).1; omega)
    have hb14 := hb14
    go_wp2_with fail
    refine (QueueTill_c Az xs.length cAz _ _ at_ xs _ rfl hbx z_14.cap.1 z_14.cap.2 (z_14.slAt encT_len).2.2 (Nat.le_refl _)).mono ?_
    rintro e w15 ⟨vh, vhd, rfl, hoh, hohd, hne_h_hd, hb15⟩
    have hB15 : Below w.heap.size w w15 := hB14.trans (hb15.mono hB14.size)
    have p_15 := p_14.below hb15 (Nat.le_refl _)
    have w_15 := w_14.below hb15 (Nat.le_refl _)
    have wd_15 := wd_14.below hb15 (Nat.le_refl _)
    have x_15 := x_14.below hb15 (Nat.le_refl _)
    have g_15 := g_14.below hb15 (Nat.le_refl _)
    have gd_15 := gd_14.below hb15 (Nat.le_refl _)
    have y_15 := y_14.below hb15 (Nat.le_refl _)
    have z_15 := z_14.below hb15 (Nat.le_refl _)
    obtain ⟨Ah, cAh, rfl, _, _, _⟩ := (hoh.mono hB14.size).form
    have h_15 := (hoh.mono hB14.size)
    have ne_p_h : ∀ b, (Value.slice Ap xs.length cAp).ownBlock = some b → (Value.slice Ah (tillQ at_ xs).1.length cAh).ownBlock = some b → False := fun b h1 h2 => (by have g1 := (p_14.lt b h1).2; have g2 := (hoh.lt b h2).1; omega)
    have ne_w_h : ∀ b, (Value.slice Aw (tillQ at_ xs).1.length cAw).ownBlock = some b → (Value.slice Ah (tillQ at_ xs).1.length cAh).ownBlock = some b → False := fun b h1 h2 => (by have g1 := (w_14.lt b h1).2; have g2 := (hoh.lt b h2).1; omega)
    have ne_wd_h : ∀ b, (Value.slice Awd (tillQ at_ xs).2.length cAwd).ownBlock = some b → (Value.slice Ah (tillQ at_ xs).1.length cAh).ownBlock = some b → False := fun b h1 h2 => (by have g1 := (wd_14.lt b h1).2; have g2 := (hoh.lt b h2).1; omega)
    have ne_x_h : ∀ b, (Value.slice Ax xs.length cAx).ownBlock = some b → (Value.slice Ah (tillQ at_ xs).1.length cAh).ownBlock = some b → False := fun b h1 h2 => (by have g1 := (x_14.lt b h1).2; have g2 := (hoh.lt b h2).1; omega)
    have ne_g_h : ∀ b, (Value.slice Ag (tillQ at_ xs).1.length cAg).ownBlock = some b → (Value.slice Ah (tillQ at_ xs).1.length cAh).ownBlock = some b → False := fun b h1 h2 => (by have g1 := (g_14.lt b h1).2; have g2 := (hoh.lt b h2).1; omega)
    have ne_gd_h : ∀ b, (Value.slice Agd (tillQ at_ xs).2.length cAgd).ownBlock = some b → (Value.slice Ah (tillQ at_ xs).1.length cAh).ownBlock = some b → False := fun b h1 h2 => (by have g1 := (gd_14.lt b h1).2; have g2 := (hoh.lt b h2).1; omega)
    have ne_y_h : ∀ b, (Value.slice Ay xs.length cAy).ownBlock = some b → (Value.slice Ah (tillQ at_ xs).1.length cAh).ownBlock = some b → False := fun b h1 h2 => (by have g1 := (y_14.lt b h1).2; have g2 := (hoh.lt b h2).1; omega)
    have ne_z_h : ∀ b, (Value.slice Az xs.length cAz).ownBlock = some b → (Value.slice Ah (tillQ at_ xs).1.length cAh).ownBlock = some b → False := fun b h1 h2 => (by have g1 := (z_14.lt b h1).2; have g2 := (hoh.lt b h2).1; omega)
    obtain ⟨Ahd, cAhd, rfl, _, _, _⟩ := (hohd.mono hB14.size).form
    have hd_15 := (hohd.mono hB14.size)
    have ne_p_hd : ∀ b, (Value.slice Ap xs.length cAp).ownBlock = some b → (Value.slice Ahd (tillQ at_ xs).2.length cAhd).ownBlock = some b → False := fun b h1 h2 => (by have g1 := (p_14.lt b h1).2; have g2 := (hohd.lt b h2).1; omega)
    have ne_w_hd : ∀ b, (Value.slice Aw (tillQ at_ xs).1.length cAw).ownBlock = some b → (Value.slice Ahd (tillQ at_ xs).2.length cAhd).ownBlock = some b → False := fun b h1 h2 => (by have g1 := (w_14.lt b h1).2; have g2 := (hohd.lt b h2).1; omega)
    have ne_wd_hd : ∀ b, (Value.slice Awd (tillQ at_ xs).2.length cAwd).ownBlock = some b → (Value.slice Ahd (tillQ at_ xs).2.length cAhd).ownBlock = some b → False := fun b h1 h2 => (by have g1 := (wd_14.lt b h1).2; have g2 := (hohd.lt b h2).1; omega)
    have ne_x_hd : ∀ b, (Value.slice Ax xs.length cAx).ownBlock = some b → (Value.slice Ahd (tillQ at_ xs).2.length cAhd).ownBlock = some b → False := fun b h1 h2 => (by have g1 := (x_14.lt b h1).2; have g2 := (hohd.lt b h2).1; omega)
    have ne_g_hd : ∀ b, (Value.slice Ag (tillQ at_ xs).1.length cAg).ownBlock = some b → (Value.slice Ahd (tillQ at_ xs).2.length cAhd).ownBlock = some b → False := fun b h1 h2 => (by have g1 := (g_14.lt b h1).2; have g2 := (hohd.lt b h2).1; omega)
    have ne_gd_hd : ∀ b, (Value.slice Agd (tillQ at_ xs).2.length cAgd).ownBlock = some b → (Value.slice Ahd (tillQ at_ xs).2.length cAhd).ownBlock = some b → False := fun b h1 h2 => (by have g1 := (gd_14.lt b h1).2; have g2 := (hohd.lt b h2).1; omega)
    have ne_y_hd : ∀ b, (Value.slice Ay xs.length cAy).ownBlock = some b → (Value.slice Ahd (tillQ at_ xs).2.length cAhd).ownBlock = some b → False := fun b h1 h2 => (by have g1 := (y_14.lt b h1).2; have g2 := (hohd.lt b h2).1; omega)
    have ne_z_hd : ∀ b, (Value.slice Az xs.length cAz).ownBlock = some b → (Value.slice Ahd (tillQ at_ xs).2.length cAhd).ownBlock = some b → False := fun b h1 h2 => (by have g1 := (z_14.lt b h1).2; have g2 := (hohd.lt b h2).1; omega)
    have hb15 := hb15
    have ne_h_hd : ∀ b, (Value.slice Ah (tillQ at_ xs).1.length cAh).ownBlock = some b → (Value.slice Ahd (tillQ at_ xs).2.length cAhd).ownBlock = some b → False := hne_h_hd
    go_wp2_with fail
    refine (eqSame_c h_15 w_15 hbM).mono ?_
    rintro e w16 ⟨rfl, hb16⟩
    have hB16 : Below w.heap.size w w16 := hB15.trans (hb16.mono hB15.size)
    have p_16 := p_15.below hb16 (Nat.le_refl _)
    have w_16 := w_15.below hb16 (Nat.le_refl _)
    have wd_16 := wd_15.below hb16 (Nat.le_refl _)
    have x_16 := x_15.below hb16 (Nat.le_refl _)
    have g_16 := g_15.below hb16 (Nat.le_refl _)
    have gd_16 := gd_15.below hb16 (Nat.le_refl _)
    have y_16 := y_15.below hb16 (Nat.le_refl _)
    have z_16 := z_15.below hb16 (Nat.le_refl _)
    have h_16 := h_15.below hb16 (Nat.le_refl _)
    have hd_16 := hd_15.below hb16 (Nat.le_refl _)
    have hb16 := hb16
    go_wp2_with fail
    refine (eqSame_c hd_16 wd_16 hbN).mono ?_
    rintro e w17 ⟨rfl, hb17⟩
    have hB17 : Below w.heap.size w w17 := hB16.trans (hb17.mono hB16.size)
    have p_17 := p_16.below hb17 (Nat.le_refl _)
    have w_17 := w_16.below hb17 (Nat.le_refl _)
    have wd_17 := wd_16.below hb17 (Nat.le_refl _)
    have x_17 := x_16.below hb17 (Nat.le_refl _)
    have g_17 := g_16.below hb17 (Nat.le_refl _)
    have gd_17 := gd_16.below hb17 (Nat.le_refl _)
    have y_17 := y_16.below hb17 (Nat.le_refl _)
    have z_17 := z_16.below hb17 (Nat.le_refl _)
    have h_17 := h_16.below hb17 (Nat.le_refl _)
    have hd_17 := hd_16.below hb17 (Nat.le_refl _)
    have hb17 := hb17
    go_wp2_with fail
    refine (heldO_c (k := 1) (by omega) (by omega) g_17 hbM).mono ?_
    rintro e w' ⟨rfl, rfl⟩
    go_wp2_with fail
    refine (heldO_c (k := 1 + 3 * ((tillQ at_ xs).1.length : Int)) (by omega) (by omega) gd_17 hbN).mono ?_
    rintro e w' ⟨rfl, rfl⟩
    go_wp2
    go_ret
    exact ⟨rfl, hB17⟩
  · go_enter Try.func7, Try.ntmps7
    go_wp2_with fail
    refine (sz_c A n c _ hnm).mono ?_
    rintro e w0 ⟨rfl, rfl⟩
    simp only [hb, if_false]
    go_wp2
    go_ret
    exact ⟨rfl, Below.refl _ _⟩

/-! ### The row of 'laws.FnExactQueueTill' -/
namespace FnExactQueueTill
open Go.ChangeShapes Go.WideShapes Go.ChangeAt Go.RowKit
open Go.ChangeMaps (open_string shut_string)
theorem own : ownKnob Try.prog.godebug = none := by kernel_rfl
theorem laidOut : laidOutB Try.prog = true := by kernel_rfl

set_option maxRecDepth 100000 in
theorem lifted (os : Os) (started : os.Started) (H : Type) (enc : TypeId × Value → H) :
    ReturnsInHanded {} Try.checked os 7 .any (Rows.fnExactQueueTillSpec.pre6 enc Try.prog Try.f7 Rows.fnExactQueueTillRow.domain false) (Rows.fnExactQueueTillSpec.post enc Try.prog Try.f7 false true false false) := by
  refine returnsInHanded_of_change (C := Try.checked) own started (by kernel_rfl) Try.func7
    (ChangeSpec.witness6 (enc := enc) (C := Try.checked) false ⟨#[], #[.slice none 0 0, .int .i64 0], []⟩ 8 (by kernel_rfl) (by kernel_rfl) (by kernel_rfl) (by kernel_rfl)) ?_
  intro W base args ds gs before hval0 hW hcnd _
  have hval : ∀ (j : Nat) t v, Try.f7.params[j]? = some t → args[j]? = some v → Value.okWide Try.prog W .any base t v := hval0
  have hW' := hW
  obtain ⟨p, q, hA0, hV, rfl, hfz, hnd⟩ := hW
  have hA : DataW.TrodAll enc Try.prog W 0 (fun _ => true) true Try.f7.params.toList args.toList ds p := hA0
  rw [Try.params7] at hA hval
  obtain ⟨v0, vs0, d0, ds0, p0, q0, hargs, rfl, rfl, h0, r0⟩ := trodAll_cons hA
  obtain ⟨v1, vs1, d1, ds1, p1, q1, rfl, rfl, rfl, h1, r1⟩ := trodAll_cons r0
  obtain ⟨rfl, rfl, rfl⟩ := trodAll_nil r1
  obtain rfl : args = #[v0, v1] := by cases args; simp_all
  obtain ⟨rfl, rfl⟩ := trodVars_none hV
  have k0 := h0
  have lt0 : ∀ x ∈ p0, x.block < W.heap.size := by obtain ⟨m, hm⟩ := k0; exact DataW.trod_lt m _ _ _ hm
  obtain ⟨A0, len0, cap0, z0, rfl, hl0, hc0, hm0, w0, g0⟩ : ∃ A len cap, ∃ xs : List Tm, v0 = .slice A len cap ∧ len = xs.length ∧ len ≤ cap ∧ cap ≤ maxLen ∧ Sl encT 3 W 0 W.heap.size A xs ∧ ∀ x ∈ xs, (fun _ => True) x := by
    obtain ⟨fuel, hf⟩ := h0
    obtain ⟨a0, len0, cap0, rfl⟩ := okWide_slice Try.underlying22 (hval 0 22 v0 rfl rfl)
    simp only [Value.cells] at hf
    exact trod_sl (encA := encT) (sz := 3) (Good := fun _ => True) Try.underlying22 (by kernel_rfl) (by omega) encT_len hf (fun n cs y hy => trod_int3 Try.underlying37 Try.underlying3 rfl (by kernel_rfl) (by kernel_rfl) (by kernel_rfl) hy)
  obtain ⟨a1, rfl, rfl, rfl, g1⟩ := open_int Try.underlying3 (hval 1 3 v1 rfl rfl) h1
  clear hA0 hval0
  refine (lawQueueTill A0 len0 cap0 a1 z0 W hl0 hc0 hm0 w0).mono fun e W' ⟨he, bel⟩ => ?_
  subst he
  exact ⟨_, rfl, _, _, _, [], _, [], hW', trodAll_mk1 (shut_bool Try.underlying4 _), (trodAll_cons_mk (Below.trod laidOut (by kernel_rfl) (of_decide_eq_true (by kernel_rfl)) k0 bel lt0) (trodAll_cons_mk (shut_int Try.underlying3 g1) trodAll_mk0)), rfl, bel.frame _, fun h => by cases h⟩

theorem over : Rows.fnExactQueueTillRow.holds Try.pinned (OpenSpec.ofChange Rows.fnExactQueueTillSpec) :=
  OpenClaim.holds_of_wide 7 Try.f7 rfl rfl rfl rfl rfl rfl rfl ⟨rfl, rfl, rfl, rfl, rfl⟩ rfl rfl rfl rfl rfl (by kernel_rfl) Try.func7 (by kernel_rfl)
    (of_decide_eq_true (by kernel_rfl)) (by unfold Func.isWrapper; first | (rw [if_pos (by decide +kernel)]; kernel_rfl) | (rw [if_neg (by decide +kernel)]; exact ⟨rfl, rfl⟩))
    (fun os started H enc _ => lifted os started H enc)

theorem proved : Rows.FnExactQueueTillSaid := over
end FnExactQueueTill
end Go.Proofs.Ytaklfalkpkifmaa
