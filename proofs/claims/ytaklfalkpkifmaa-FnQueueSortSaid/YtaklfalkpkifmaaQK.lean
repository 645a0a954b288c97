/-
  The walk of 'FnExactQueueAdd'.
-/
import Derived.Test.YtaklfalkpkifmaaQJ
import Derived.Test.YtaklfalkpkifmaaOpen
namespace Go.Proofs.Ytaklfalkpkifmaa
open Go.RowKit Rg
set_option linter.unusedVariables false
/-! The contracts, told of what is owned. -/
theorem eqSame_c {A B : Option Addr} {n m c d lo lo' : Nat} {xs : List Tm} {w : World} (h : Own encT 3 31 w lo (.slice A n c) xs) (h' : Own encT 3 31 w lo' (.slice B m d) xs) (hb : xs.length ≤ 1048576) :
    Calls Try.prog 16 #[.slice A n c, .slice B m d] w fun e w' => e = .returned (.bool true) ∧ Below w.heap.size w w' := by
  obtain ⟨h1, _, h2⟩ := h.slAt encT_len
  obtain ⟨h3, _, h4⟩ := h'.slAt encT_len
  have := eqTimedS_c A B n m c d _ _ _ _ xs xs w h1 h3 (by omega) (by omega) h2 h4 (Nat.le_refl _) (Nat.le_refl _)
  simpa using this
theorem Only.keepc {g : Option Nat} {w w' : World} (h : Only w.heap.size g w w') {p : Addr} {v : Value} (hne : g ≠ some p.block) (hc : w.cell? p = some v) : w'.cell? p = some v :=
  (World.cell?_of_block (h.block p.block (lt_of_cell hc) hne)).trans hc
theorem markO_c {A : Option Addr} {n c lo : Nat} {k : Int} {xs : List Tm} {w : World} (hk0 : 0 ≤ k) (hk1 : k ≤ 1099511627776) (h : Own encT 3 31 w lo (.slice A n c) xs) (hb : xs.length ≤ 1048576) :
    Calls Try.prog 22 #[.slice A n c, .int .i64 k] w fun e w' => e = .returned (.int .i64 (k + 3 * n)) ∧ Own encT 3 31 w' lo (.slice A n c) (marks k n) ∧ Only w.heap.size (Value.slice A n c).ownBlock w w' := by
  have h1 := h.lenEq
  exact (mark_c A n c lo k xs w h1 (by omega) hk0 hk1 h).mono fun e w' ⟨h2, h3, h4⟩ => ⟨h2, h3, Only.of_grown h4⟩
theorem heldO_c {A : Option Addr} {n c lo : Nat} {k : Int} {w : World} (hk0 : 0 ≤ k) (hk1 : k ≤ 1099511627776) (h : Own encT 3 31 w lo (.slice A n c) (marks k n)) (hb : n ≤ 1048576) :
    Calls Try.prog 23 #[.slice A n c, .int .i64 k] w fun e w' => e = .returned (.int .i64 (k + 3 * n)) ∧ w = w' :=
  held_c A n c _ _ k w hb hk0 hk1 (h.slAt encT_len).2.2
theorem riseAt_len (k : Nat) (ys : List Tm) : (riseAt k ys).length = ys.length := by
  induction k using Nat.strongRecOn generalizing ys with
  | _ k ih =>
    rw [riseAt]
    split
    · split
      · rw [ih _ (by omega), swap_len]
      · rfl
    · rfl
theorem sinkAt_len (k : Nat) (ys : List Tm) : (sinkAt k ys).length = ys.length := by
  generalize hm : ys.length - k = m
  induction m using Nat.strongRecOn generalizing k ys with
  | _ m ih =>
    rw [sinkAt]
    split
    · rename_i h
      split
      · have h1 := kid_gt k ys
        have h2 := kid_lt h
        have h3 := ih (ys.length - kid k ys) (by omega) (kid k ys) (swap ys k (kid k ys) (by omega) h2) (by rw [swap_len])
        rw [h3, swap_len]
      · rfl
    · rfl
theorem addL_len (xs : List Tm) (t : Tm) (h : xs.length ≤ 1048576) : (addL xs t).1.length ≤ 1048576 := by
  unfold addL
  split
  · split
    · simp only [riseAt_len, List.length_append, List.length_cons, List.length_nil]; omega
    · exact h
  · simp
theorem toTimed_t (t : Tm) (w : World) : Calls Try.prog 21 #[.agg #[.int .i64 t.1, .int .i64 t.2.1, .int .i64 t.2.2]] w fun e w' => e = .returned (.agg #[.int .i64 t.1, .int .i64 t.2.1, .int .i64 t.2.2]) ∧ Below w.heap.size w w' := toTimed_c _ _ _ w

set_option maxHeartbeats 2000000 in
theorem lawQueueAdd (A : Option Addr) (n c : Nat) (xs : List Tm) (t : Tm) (w : World) (hn : n = xs.length) (hc : n ≤ c) (hcm : c ≤ maxLen) (hs : Sl encT 3 w 0 w.heap.size A xs) :
    Calls Try.prog 5 #[.slice A n c, .agg #[.int .i64 t.1, .int .i64 t.2.1, .int .i64 t.2.2]] w fun e w' => e = .returned (.bool true) ∧ Below w.heap.size w w' := by
  have hn' := hide hn
  clear hn
  have hnm : n ≤ maxLen := Nat.le_trans hc hcm
  have hW : Below w.heap.size w (w.alloc (.cells #[.int .i64 t.1, .int .i64 t.2.1, .int .i64 t.2.2] 37)) := (Below.refl _ _).alloc (Nat.le_refl _) _
  have t1_0 : (w.alloc (.cells #[.int .i64 t.1, .int .i64 t.2.1, .int .i64 t.2.2] 37)).cell? ⟨w.heap.size, 0, none⟩ = some (.int .i64 t.1) := by simp
  have t2_0 : (w.alloc (.cells #[.int .i64 t.1, .int .i64 t.2.1, .int .i64 t.2.2] 37)).cell? ⟨w.heap.size, 1, none⟩ = some (.int .i64 t.2.1) := by simp
  have t3_0 : (w.alloc (.cells #[.int .i64 t.1, .int .i64 t.2.1, .int .i64 t.2.2] 37)).cell? ⟨w.heap.size, 2, none⟩ = some (.int .i64 t.2.2) := by simp
  by_cases hb : n ≤ 1048576
  · have hbx : xs.length ≤ 1048576 := by have := hn'.out; omega
    have hbL := addL_len xs t hbx
    have hb2 : ((addL xs t).2 == (addL xs t).2) = true := by simp
    have hl0 : w.heap.size < (w.alloc (.cells #[.int .i64 t.1, .int .i64 t.2.1, .int .i64 t.2.2] 37)).heap.size := by simp
    go_enter Try.func5, Try.ntmps5
    go_wp2_with fail
    refine (sz_c A n c _ hnm).mono ?_
    rintro e w0 ⟨rfl, hw0⟩
    simp only [hb, if_true]
    generalize hW0 : w.alloc (.cells #[.int .i64 t.1, .int .i64 t.2.1, .int .i64 t.2.2] 37) = wb at *
    subst hw0
    go_wp2_with fail
    refine wp_region_T (Since _) [] [] [24] [0, 2, 1, 3, 4, 5, 6, 7, 8, 9] (by kernel_rfl) (by kernel_rfl) (by kernel_rfl) (Since.drew _) ?_; simp only [pickL, List.getElem?_cons_succ, List.getElem?_cons_zero]
    go_wp2_with (first
      | (with_reducible refine Since.and_ ?_ ?_; (focus (repeat (first | (with_reducible exact Since.refl _) | assumption | (with_reducible refine Since.drewR ?_) | (with_reducible refine Since.alloc ?_ _) | ((with_reducible apply Since.below); rotate_left; (focus assumption))))); intro hS) | ((with_reducible refine wpT_q0 ?_ ?_ ?_ ?_); (focus rfl); (focus rfl); (focus rfl); intro K hK) | ((with_reducible apply wpT_l); (focus rfl); (focus rfl); (focus rfl); (focus rfl); (focus (first | exact Since.drew _ | assumption)); (focus (simp <;> omega)); (focus go_simp); intro K hK) | ((with_reducible refine wpT_xs0 ?_ ?_ ?_); (focus rfl); (focus rfl); intro K hK) | ((with_reducible refine wpT_noL ?_ ?_); (focus (first | exact wanted_no _ _ _ rfl rfl rfl | exact wanted_un _ _ _ rfl rfl rfl)); simp only [setO, List.set_cons_succ, List.set_cons_zero]) | ((with_reducible refine wpT_q1 ?_ ?_ ?_ ?_); (focus exact wanted_yes _ _ _ rfl rfl rfl); (focus rfl); (focus rfl); intro K hK) | ((with_reducible refine wpT_xs1 ?_ ?_ ?_); (focus exact wanted_yes _ _ _ rfl rfl rfl); (focus rfl); intro K hK) | ((with_reducible refine wpT_nil ?_); try dsimp only)
      | (go_at_call 14; refine (toTimedS_c A n c 0 _ xs wb.drew hn'.out hb (hs.below hW.drew (Nat.le_refl _)) hW.drew.size).mono ?_; rintro e w1 ⟨vp, rfl, hop, hb1⟩; have hB1 : Below w.heap.size w w1 := hW.drew.trans (hb1.mono hW.drew.size); have t1_1 := keepc hb1 (keepc (Below.drew (Below.refl _ wb)) t1_0); have t2_1 := keepc hb1 (keepc (Below.drew (Below.refl _ wb)) t2_0); have t3_1 := keepc hb1 (keepc (Below.drew (Below.refl _ wb)) t3_0); obtain ⟨Ap, cAp, rfl, _, _, _⟩ := (hop.mono hW.drew.size).form; have p_1 := (hop.mono hW.drew.size); have neb_p_t : ∀ b, (Value.slice Ap xs.length cAp).ownBlock = some b → b = w.heap.size → False := fun b h1 h2 => (by have g1 := (hop.lt b h1).1; have g2 := lt_of_cell (keepc (Below.drew (Below.refl _ wb)) t1_0); simp only at g2; omega); have hb1 := hb1)
      | (go_at_call 21; refine (toTimed_t t _).mono ?_; rintro e w2 ⟨rfl, hb2⟩; have hB2 : Below w.heap.size w w2 := hB1.trans (hb2.mono hB1.size); have p_2 := p_1.below hb2 (Nat.le_refl _); have t1_2 := keepc hb2 t1_1; have t2_2 := keepc hb2 t2_1; have t3_2 := keepc hb2 t3_1; have hb2 := hb2)
      | (go_at_call 19; refine (specQueueAdd_c Ap xs.length cAp _ _ xs t _ rfl hbx (p_2.slAt encT_len).2.2 (Nat.le_refl _)).mono ?_; rintro e w3 ⟨vw, rfl, how, hb3⟩; have hB3 : Below w.heap.size w w3 := hB2.trans (hb3.mono hB2.size); have p_3 := p_2.below hb3 (Nat.le_refl _); have t1_3 := keepc hb3 t1_2; have t2_3 := keepc hb3 t2_2; have t3_3 := keepc hb3 t3_2; obtain ⟨Aw, cAw, rfl, _, _, _⟩ := (how.mono hB2.size).form; have w_3 := (how.mono hB2.size); have ne_p_w : ∀ b, (Value.slice Ap xs.length cAp).ownBlock = some b → (Value.slice Aw (addL xs t).1.length cAw).ownBlock = some b → False := fun b h1 h2 => (by have g1 := (p_2.lt b h1).2; have g2 := (how.lt b h2).1; omega); have neb_w_t : ∀ b, (Value.slice Aw (addL xs t).1.length cAw).ownBlock = some b → b = w.heap.size → False := fun b h1 h2 => (by have g1 := (how.lt b h1).1; have g2 := lt_of_cell t1_2; simp only at g2; omega); have hb3 := hb3))
    refine (toTimedS_c A n c 0 _ xs w3 hn'.out hb (hs.below hB3 (Nat.le_refl _)) hB3.size).mono ?_
    rintro e w4 ⟨vx, rfl, hox, hb4⟩
    have hB4 : Below w.heap.size w w4 := hB3.trans (hb4.mono hB3.size)
    have p_4 := p_3.below hb4 (Nat.le_refl _)
    have w_4 := w_3.below hb4 (Nat.le_refl _)
    have t1_4 := keepc hb4 t1_3
    have t2_4 := keepc hb4 t2_3
    have t3_4 := keepc hb4 t3_3
    obtain ⟨Ax, cAx, rfl, _, _, _⟩ := (hox.mono hB3.size).form
    have x_4 := (hox.mono hB3.size)
    have ne_p_x : ∀ b, (Value.slice Ap xs.length cAp).ownBlock = some b → (Value.slice Ax xs.length cAx).ownBlock = some b → False := fun b h1 h2 => (by have g1 := (p_3.lt b h1).2; have g2 := (hox.lt b h2).1; omega)
    have ne_w_x : ∀ b, (Value.slice Aw (addL xs t).1.length cAw).ownBlock = some b → (Value.slice Ax xs.length cAx).ownBlock = some b → False := fun b h1 h2 => (by have g1 := (w_3.lt b h1).2; have g2 := (hox.lt b h2).1; omega)
    have neb_x_t : ∀ b, (Value.slice Ax xs.length cAx).ownBlock = some b → b = w.heap.size → False := fun b h1 h2 => (by have g1 := (hox.lt b h1).1; have g2 := lt_of_cell t1_3; simp only at g2; omega)
    have hb4 := hb4
    have hlx : Hid True := hide trivial
    go_wp2_with fail
    refine (toTimed_t t _).mono ?_
    rintro e w5 ⟨rfl, hb5⟩
    have hB5 : Below w.heap.size w w5 := hB4.trans (hb5.mono hB4.size)
    have p_5 := p_4.below hb5 (Nat.le_refl _)
    have w_5 := w_4.below hb5 (Nat.le_refl _)
    have x_5 := x_4.below hb5 (Nat.le_refl _)
    have t1_5 := keepc hb5 t1_4
    have t2_5 := keepc hb5 t2_4
    have t3_5 := keepc hb5 t3_4
    have hb5 := hb5
    go_wp2_with fail
    refine (QueueAdd_c Ax xs.length cAx _ _ xs t _ rfl hbx x_5.cap.1 x_5.cap.2 (x_5.slAt encT_len).2.2 (Nat.le_refl _)).mono ?_
    rintro e w6 ⟨vg, rfl, hog, hb6⟩
    have hB6 : Below w.heap.size w w6 := hB5.trans (hb6.mono hB5.size)
    have p_6 := p_5.below hb6 (Nat.le_refl _)
    have w_6 := w_5.below hb6 (Nat.le_refl _)
    have x_6 := x_5.below hb6 (Nat.le_refl _)
    have t1_6 := keepc hb6 t1_5
    have t2_6 := keepc hb6 t2_5
    have t3_6 := keepc hb6 t3_5
    obtain ⟨Ag, cAg, rfl, _, _, _⟩ := (hog.mono hB5.size).form
    have g_6 := (hog.mono hB5.size)
    have ne_p_g : ∀ b, (Value.slice Ap xs.length cAp).ownBlock = some b → (Value.slice Ag (addL xs t).1.length cAg).ownBlock = some b → False := fun b h1 h2 => (by have g1 := (p_5.lt b h1).2; have g2 := (hog.lt b h2).1; omega)
    have ne_w_g : ∀ b, (Value.slice Aw (addL xs t).1.length cAw).ownBlock = some b → (Value.slice Ag (addL xs t).1.length cAg).ownBlock = some b → False := fun b h1 h2 => (by have g1 := (w_5.lt b h1).2; have g2 := (hog.lt b h2).1; omega)
    have ne_x_g : ∀ b, (Value.slice Ax xs.length cAx).ownBlock = some b → (Value.slice Ag (addL xs t).1.length cAg).ownBlock = some b → False := fun b h1 h2 => (by have g1 := (x_5.lt b h1).2; have g2 := (hog.lt b h2).1; omega)
    have neb_g_t : ∀ b, (Value.slice Ag (addL xs t).1.length cAg).ownBlock = some b → b = w.heap.size → False := fun b h1 h2 => (by have g1 := (hog.lt b h1).1; have g2 := lt_of_cell t1_5; simp only at g2; omega)
    have hb6 := hb6
    go_wp2_with fail
    refine (eqSame_c g_6 w_6 hbL).mono ?_
    rintro e w7 ⟨rfl, hb7⟩
    have hB7 : Below w.heap.size w w7 := hB6.trans (hb7.mono hB6.size)
    have p_7 := p_6.below hb7 (Nat.le_refl _)
    have w_7 := w_6.below hb7 (Nat.le_refl _)
    have x_7 := x_6.below hb7 (Nat.le_refl _)
    have g_7 := g_6.below hb7 (Nat.le_refl _)
    have t1_7 := keepc hb7 t1_6
    have t2_7 := keepc hb7 t2_6
    have t3_7 := keepc hb7 t3_6
    have hb7 := hb7
    go_wp2_with fail
    refine (toTimedS_c A n c 0 _ xs w7 hn'.out hb (hs.below hB7 (Nat.le_refl _)) hB7.size).mono ?_
    rintro e w8 ⟨vy, rfl, hoy, hb8⟩
    have hB8 : Below w.heap.size w w8 := hB7.trans (hb8.mono hB7.size)
    have p_8 := p_7.below hb8 (Nat.le_refl _)
    have w_8 := w_7.below hb8 (Nat.le_refl _)
    have x_8 := x_7.below hb8 (Nat.le_refl _)
    have g_8 := g_7.below hb8 (Nat.le_refl _)
    have t1_8 := keepc hb8 t1_7
    have t2_8 := keepc hb8 t2_7
    have t3_8 := keepc hb8 t3_7
    obtain ⟨Ay, cAy, rfl, _, _, _⟩ := (hoy.mono hB7.size).form
    have y_8 := (hoy.mono hB7.size)
    have ne_p_y : ∀ b, (Value.slice Ap xs.length cAp).ownBlock = some b → (Value.slice Ay xs.length cAy).ownBlock = some b → False := fun b h1 h2 => (by have g1 := (p_7.lt b h1).2; have g2 := (hoy.lt b h2).1; omega)
    have ne_w_y : ∀ b, (Value.slice Aw (addL xs t).1.length cAw).ownBlock = some b → (Value.slice Ay xs.length cAy).ownBlock = some b → False := fun b h1 h2 => (by have g1 := (w_7.lt b h1).2; have g2 := (hoy.lt b h2).1; omega)
    have ne_x_y : ∀ b, (Value.slice Ax xs.length cAx).ownBlock = some b → (Value.slice Ay xs.length cAy).ownBlock = some b → False := fun b h1 h2 => (by have g1 := (x_7.lt b h1).2; have g2 := (hoy.lt b h2).1; omega)
    have ne_g_y : ∀ b, (Value.slice Ag (addL xs t).1.length cAg).ownBlock = some b → (Value.slice Ay xs.length cAy).ownBlock = some b → False := fun b h1 h2 => (by have g1 := (g_7.lt b h1).2; have g2 := (hoy.lt b h2).1; omega)
    have neb_y_t : ∀ b, (Value.slice Ay xs.length cAy).ownBlock = some b → b = w.heap.size → False := fun b h1 h2 => (by have g1 := (hoy.lt b h1).1; have g2 := lt_of_cell t1_7; simp only at g2; omega)
    have hb8 := hb8
    go_wp2_with fail
    refine (eqSame_c x_8 y_8 hbx).mono ?_
    rintro e w9 ⟨rfl, hb9⟩
    have hB9 : Below w.heap.size w w9 := hB8.trans (hb9.mono hB8.size)
    have p_9 := p_8.below hb9 (Nat.le_refl _)
    have w_9 := w_8.below hb9 (Nat.le_refl _)
    have x_9 := x_8.below hb9 (Nat.le_refl _)
    have g_9 := g_8.below hb9 (Nat.le_refl _)
    have y_9 := y_8.below hb9 (Nat.le_refl _)
    have t1_9 := keepc hb9 t1_8
    have t2_9 := keepc hb9 t2_8
    have t3_9 := keepc hb9 t3_8
    have hb9 := hb9
    go_wp2_with fail
    refine (markO_c (k := 1) (by omega) (by omega) x_9 hbx).mono ?_
    rintro e w10 ⟨rfl, hmx, hon10⟩
    have hB10 : Below w.heap.size w w10 := hB9.trans (hon10.toBelow hB9.size (fun k hk => (x_9.lt k hk).1))
    have p_10 := p_9.only hon10 (Nat.le_refl _) (fun b h1 h2 => ne_p_x b h1 h2)
    have w_10 := w_9.only hon10 (Nat.le_refl _) (fun b h1 h2 => ne_w_x b h1 h2)
    have g_10 := g_9.only hon10 (Nat.le_refl _) (fun b h1 h2 => ne_x_g b h2 h1)
    have y_10 := y_9.only hon10 (Nat.le_refl _) (fun b h1 h2 => ne_x_y b h2 h1)
    have x_10 := hmx
    have t1_10 := hon10.keepc (fun h => neb_x_t _ h rfl) t1_9
    have t2_10 := hon10.keepc (fun h => neb_x_t _ h rfl) t2_9
    have t3_10 := hon10.keepc (fun h => neb_x_t _ h rfl) t3_9
    have q1 : decide ((1 : Int) + 3 * (xs.length : Int) < 0) = false := by simp; omega
    go_wp2_with fail
    refine (eqSame_c g_10 w_10 hbL).mono ?_
    rintro e w11 ⟨rfl, hb11⟩
    have hB11 : Below w.heap.size w w11 := hB10.trans (hb11.mono hB10.size)
    have p_11 := p_10.below hb11 (Nat.le_refl _)
    have w_11 := w_10.below hb11 (Nat.le_refl _)
    have x_11 := x_10.below hb11 (Nat.le_refl _)
    have g_11 := g_10.below hb11 (Nat.le_refl _)
    have y_11 := y_10.below hb11 (Nat.le_refl _)
    have t1_11 := keepc hb11 t1_10
    have t2_11 := keepc hb11 t2_10
    have t3_11 := keepc hb11 t3_10
    have hb11 := hb11
    go_wp2_with fail
    refine (markO_c (k := 1) (by omega) (by omega) g_11 hbL).mono ?_
    rintro e w12 ⟨rfl, hmg, hon12⟩
    have hB12 : Below w.heap.size w w12 := hB11.trans (hon12.toBelow hB11.size (fun k hk => (g_11.lt k hk).1))
    have p_12 := p_11.only hon12 (Nat.le_refl _) (fun b h1 h2 => ne_p_g b h1 h2)
    have w_12 := w_11.only hon12 (Nat.le_refl _) (fun b h1 h2 => ne_w_g b h1 h2)
    have x_12 := x_11.only hon12 (Nat.le_refl _) (fun b h1 h2 => ne_x_g b h1 h2)
    have y_12 := y_11.only hon12 (Nat.le_refl _) (fun b h1 h2 => ne_g_y b h2 h1)
    have g_12 := hmg
    have t1_12 := hon12.keepc (fun h => neb_g_t _ h rfl) t1_11
    have t2_12 := hon12.keepc (fun h => neb_g_t _ h rfl) t2_11
    have t3_12 := hon12.keepc (fun h => neb_g_t _ h rfl) t3_11
    go_wp2_with fail
    refine (heldO_c (k := 1) (by omega) (by omega) g_12 hbL).mono ?_
    rintro e w' ⟨rfl, rfl⟩
    have q2 : decide ((1 : Int) + 3 * ((addL xs t).1.length : Int) < 0) = false := by simp; omega
    go_wp2_with fail
    have hl12 : w.heap.size < w12.heap.size := lt_of_cell t1_12
    refine wp_region_T (Since _) [] [] [82] [0, 2, 1, 3, 4, 5, 6, 7, 8, 9] (by kernel_rfl) (by kernel_rfl) (by kernel_rfl) (Since.drew _) ?_; simp only [pickL, List.getElem?_cons_succ, List.getElem?_cons_zero]
    go_wp2_with (first
      | (with_reducible refine Since.and_ ?_ ?_; (focus (repeat (first | (with_reducible exact Since.refl _) | assumption | (with_reducible refine Since.drewR ?_) | (with_reducible refine Since.alloc ?_ _) | ((with_reducible apply Since.below); rotate_left; (focus assumption))))); intro hS) | ((with_reducible refine wpT_q0 ?_ ?_ ?_ ?_); (focus rfl); (focus rfl); (focus rfl); intro K hK) | ((with_reducible apply wpT_l); (focus rfl); (focus rfl); (focus rfl); (focus rfl); (focus (first | exact Since.drew _ | assumption)); (focus (simp <;> omega)); (focus go_simp); intro K hK) | ((with_reducible refine wpT_xs0 ?_ ?_ ?_); (focus rfl); (focus rfl); intro K hK) | ((with_reducible refine wpT_noL ?_ ?_); (focus (first | exact wanted_no _ _ _ rfl rfl rfl | exact wanted_un _ _ _ rfl rfl rfl)); simp only [setO, List.set_cons_succ, List.set_cons_zero]) | ((with_reducible refine wpT_q1 ?_ ?_ ?_ ?_); (focus exact wanted_yes _ _ _ rfl rfl rfl); (focus rfl); (focus rfl); intro K hK) | ((with_reducible refine wpT_xs1 ?_ ?_ ?_); (focus exact wanted_yes _ _ _ rfl rfl rfl); (focus rfl); intro K hK) | ((with_reducible refine wpT_nil ?_); try dsimp only)
      | (go_at_call 14; refine (toTimedS_c A n c 0 _ xs w12.drew hn'.out hb (hs.below hB12.drew (Nat.le_refl _)) hB12.drew.size).mono ?_; rintro e w13 ⟨vz, rfl, hoz, hb13⟩; have hB13 : Below w.heap.size w w13 := hB12.drew.trans (hb13.mono hB12.drew.size); have p_13 := p_12.drew.below hb13 (Nat.le_refl _); have w_13 := w_12.drew.below hb13 (Nat.le_refl _); have x_13 := x_12.drew.below hb13 (Nat.le_refl _); have g_13 := g_12.drew.below hb13 (Nat.le_refl _); have y_13 := y_12.drew.below hb13 (Nat.le_refl _); have t1_13 := keepc hb13 (keepc (Below.drew (Below.refl _ w12)) t1_12); have t2_13 := keepc hb13 (keepc (Below.drew (Below.refl _ w12)) t2_12); have t3_13 := keepc hb13 (keepc (Below.drew (Below.refl _ w12)) t3_12); obtain ⟨Az, cAz, rfl, _, _, _⟩ := (hoz.mono hB12.drew.size).form; have z_13 := (hoz.mono hB12.drew.size); have ne_p_z : ∀ b, (Value.slice Ap xs.length cAp).ownBlock = some b → (Value.slice Az xs.length cAz).ownBlock = some b → False := fun b h1 h2 => (by have g1 := (p_12.drew.lt b h1).2; have g2 := (hoz.lt b h2).1; omega); have ne_w_z : ∀ b, (Value.slice Aw (addL xs t).1.length cAw).ownBlock = some b → (Value.slice Az xs.length cAz).ownBlock = some b → False := fun b h1 h2 => (by have g1 := (w_12.drew.lt b h1).2; have g2 := (hoz.lt b h2).1; omega); have ne_x_z : ∀ b, (Value.slice Ax xs.length cAx).ownBlock = some b → (Value.slice Az xs.length cAz).ownBlock = some b → False := fun b h1 h2 => (by have g1 := (x_12.drew.lt b h1).2; have g2 := (hoz.lt b h2).1; omega); have ne_g_z : ∀ b, (Value.slice Ag (addL xs t).1.length cAg).ownBlock = some b → (Value.slice Az xs.length cAz).ownBlock = some b → False := fun b h1 h2 => (by have g1 := (g_12.drew.lt b h1).2; have g2 := (hoz.lt b h2).1; omega); have ne_y_z : ∀ b, (Value.slice Ay xs.length cAy).ownBlock = some b → (Value.slice Az xs.length cAz).ownBlock = some b → False := fun b h1 h2 => (by have g1 := (y_12.drew.lt b h1).2; have g2 := (hoz.lt b h2).1; omega); have neb_z_t : ∀ b, (Value.slice Az xs.length cAz).ownBlock = some b → b = w.heap.size → False := fun b h1 h2 => (by have g1 := (hoz.lt b h1).1; have g2 := lt_of_cell (keepc (Below.drew (Below.refl _ w12)) t1_12); simp only at g2; omega); have hb13 := hb13)
      | (go_at_call 21; refine (toTimed_t t _).mono ?_; rintro e w14 ⟨rfl, hb14⟩; have hB14 : Below w.heap.size w w14 := hB13.trans (hb14.mono hB13.size); have p_14 := p_13.below hb14 (Nat.le_refl _); have w_14 := w_13.below hb14 (Nat.le_refl _); have x_14 := x_13.below hb14 (Nat.le_refl _); have g_14 := g_13.below hb14 (Nat.le_refl _); have y_14 := y_13.below hb14 (Nat.le_refl _); have z_14 := z_13.below hb14 (Nat.le_refl _); have t1_14 := keepc hb14 t1_13; have t2_14 := keepc hb14 t2_13; have t3_14 := keepc hb14 t3_13; have hb14 := hb14)
      | (go_at_call 18; refine (QueueAdd_c Az xs.length cAz _ _ xs t _ rfl hbx z_14.cap.1 z_14.cap.2 (z_14.slAt encT_len).2.2 (Nat.le_refl _)).mono ?_; rintro e w15 ⟨vh, rfl, hoh, hb15⟩; have hB15 : Below w.heap.size w w15 := hB14.trans (hb15.mono hB14.size); have p_15 := p_14.below hb15 (Nat.le_refl _); have w_15 := w_14.below hb15 (Nat.le_refl _); have x_15 := x_14.below hb15 (Nat.le_refl _); have g_15 := g_14.below hb15 (Nat.le_refl _); have y_15 := y_14.below hb15 (Nat.le_refl _); have z_15 := z_14.below hb15 (Nat.le_refl _); have t1_15 := keepc hb15 t1_14; have t2_15 := keepc hb15 t2_14; have t3_15 := keepc hb15 t3_14; obtain ⟨Ah, cAh, rfl, _, _, _⟩ := (hoh.mono hB14.size).form; have h_15 := (hoh.mono hB14.size); have ne_p_h : ∀ b, (Value.slice Ap xs.length cAp).ownBlock = some b → (Value.slice Ah (addL xs t).1.length cAh).ownBlock = some b → False := fun b h1 h2 => (by have g1 := (p_14.lt b h1).2; have g2 := (hoh.lt b h2).1; omega); have ne_w_h : ∀ b, (Value.slice Aw (addL xs t).1.length cAw).ownBlock = some b → (Value.slice Ah (addL xs t).1.length cAh).ownBlock = some b → False := fun b h1 h2 => (by have g1 := (w_14.lt b h1).2; have g2 := (hoh.lt b h2).1; omega); have ne_x_h : ∀ b, (Value.slice Ax xs.length cAx).ownBlock = some b → (Value.slice Ah (addL xs t).1.length cAh).ownBlock = some b → False := fun b h1 h2 => (by have g1 := (x_14.lt b h1).2; have g2 := (hoh.lt b h2).1; omega); have ne_g_h : ∀ b, (Value.slice Ag (addL xs t).1.length cAg).ownBlock = some b → (Value.slice Ah (addL xs t).1.length cAh).ownBlock = some b → False := fun b h1 h2 => (by have g1 := (g_14.lt b h1).2; have g2 := (hoh.lt b h2).1; omega); have ne_y_h : ∀ b, (Value.slice Ay xs.length cAy).ownBlock = some b → (Value.slice Ah (addL xs t).1.length cAh).ownBlock = some b → False := fun b h1 h2 => (by have g1 := (y_14.lt b h1).2; have g2 := (hoh.lt b h2).1; omega); have ne_z_h : ∀ b, (Value.slice Az xs.length cAz).ownBlock = some b → (Value.slice Ah (addL xs t).1.length cAh).ownBlock = some b → False := fun b h1 h2 => (by have g1 := (z_14.lt b h1).2; have g2 := (hoh.lt b h2).1; omega); have neb_h_t : ∀ b, (Value.slice Ah (addL xs t).1.length cAh).ownBlock = some b → b = w.heap.size → False := fun b h1 h2 => (by have g1 := (hoh.lt b h1).1; have g2 := lt_of_cell t1_14; simp only at g2; omega); have hb15 := hb15))
    refine (eqSame_c h_15 w_15 hbL).mono ?_
    rintro e w16 ⟨rfl, hb16⟩
    have hB16 : Below w.heap.size w w16 := hB15.trans (hb16.mono hB15.size)
    have p_16 := p_15.below hb16 (Nat.le_refl _)
    have w_16 := w_15.below hb16 (Nat.le_refl _)
    have x_16 := x_15.below hb16 (Nat.le_refl _)
    have g_16 := g_15.below hb16 (Nat.le_refl _)
    have y_16 := y_15.below hb16 (Nat.le_refl _)
    have z_16 := z_15.below hb16 (Nat.le_refl _)
    have h_16 := h_15.below hb16 (Nat.le_refl _)
    have t1_16 := keepc hb16 t1_15
    have t2_16 := keepc hb16 t2_15
    have t3_16 := keepc hb16 t3_15
    have hb16 := hb16
    go_wp2_with fail
    refine (heldO_c (k := 1) (by omega) (by omega) g_16 hbL).mono ?_
    rintro e w' ⟨rfl, rfl⟩
    go_wp2
    go_ret
    exact ⟨rfl, hB16⟩
  · go_enter Try.func5, Try.ntmps5
    go_wp2_with fail
    refine (sz_c A n c _ hnm).mono ?_
    rintro e w0 ⟨rfl, hw0⟩
    simp only [hb, if_false]
    subst hw0
    go_wp2
    go_ret
    exact ⟨rfl, hW⟩

/-! ### The row of 'laws.FnExactQueueAdd' -/
namespace FnExactQueueAdd
open Go.ChangeShapes Go.WideShapes Go.ChangeAt Go.RowKit
open Go.ChangeMaps (open_string shut_string)
theorem own : ownKnob Try.prog.godebug = none := by kernel_rfl
theorem laidOut : laidOutB Try.prog = true := by kernel_rfl

set_option maxRecDepth 100000 in
theorem lifted (os : Os) (started : os.Started) (H : Type) (enc : TypeId × Value → H) :
    ReturnsInHanded {} Try.checked os 5 .any (Rows.fnExactQueueAddSpec.pre6 enc Try.prog Try.f5 Rows.fnExactQueueAddRow.domain false) (Rows.fnExactQueueAddSpec.post enc Try.prog Try.f5 false true false false) := by
  refine returnsInHanded_of_change (C := Try.checked) own started (by kernel_rfl) Try.func5
    (ChangeSpec.witness6 (enc := enc) (C := Try.checked) false ⟨#[], #[.slice none 0 0, .agg #[.int .i64 0, .int .i64 0, .int .i64 0]], []⟩ 8 (by kernel_rfl) (by kernel_rfl) (by kernel_rfl) (by kernel_rfl)) ?_
  intro W base args ds gs before hval0 hW hcnd _
  have hval : ∀ (j : Nat) t v, Try.f5.params[j]? = some t → args[j]? = some v → Value.okWide Try.prog W .any base t v := hval0
  have hW' := hW
  obtain ⟨p, q, hA0, hV, rfl, hfz, hnd⟩ := hW
  have hA : DataW.TrodAll enc Try.prog W 0 (fun _ => true) true Try.f5.params.toList args.toList ds p := hA0
  rw [Try.params5] at hA hval
  obtain ⟨v0, vs0, d0, ds0, p0, q0, hargs, rfl, rfl, h0, r0⟩ := trodAll_cons hA
  obtain ⟨v1, vs1, d1, ds1, p1, q1, rfl, rfl, rfl, h1, r1⟩ := trodAll_cons r0
  obtain ⟨rfl, rfl, rfl⟩ := trodAll_nil r1
  obtain rfl : args = #[v0, v1] := by cases args; simp_all
  obtain ⟨rfl, rfl⟩ := trodVars_none hV
  have k0 := h0
  have lt0 : ∀ x ∈ p0, x.block < W.heap.size := by obtain ⟨m, hm⟩ := k0; exact DataW.trod_lt m _ _ _ hm
  obtain ⟨A0, len0, cap0, z0, rfl, hl0, hc0, hm0, w0, g0⟩ : ∃ A len cap, ∃ xs : List Tm, v0 = .slice A len cap ∧ len = xs.length ∧ len ≤ cap ∧ cap ≤ maxLen ∧ Sl encT 3 W 0 W.heap.size A xs ∧ ∀ x ∈ xs, (fun _ => True) x := by
    obtain ⟨fuel, hf⟩ := h0
    obtain ⟨a0, len0, cap0, rfl⟩ := okWide_slice Try.underlying22 (hval 0 22 v0 rfl rfl)
    simp only [Value.cells] at hf
    exact trod_sl (encA := encT) (sz := 3) (Good := fun _ => True) Try.underlying22 (by kernel_rfl) (by omega) encT_len hf (fun n cs y hy => trod_int3 Try.underlying37 Try.underlying3 rfl (by kernel_rfl) (by kernel_rfl) (by kernel_rfl) hy)
  have k1 := h1
  have lt1 : ∀ x ∈ p1, x.block < W.heap.size := by obtain ⟨m, hm⟩ := k1; exact DataW.trod_lt m _ _ _ hm
  obtain ⟨t1, rfl⟩ : ∃ t : Tm, v1 = .agg #[.int .i64 t.1, .int .i64 t.2.1, .int .i64 t.2.2] := by
    obtain ⟨fuel, hf⟩ := h1
    obtain ⟨cs, rfl, _⟩ := okWide_struct Try.underlying37 (hval 1 37 v1 rfl rfl)
    simp only [Value.cells] at hf
    obtain ⟨t, ht, _⟩ := trod_int3 Try.underlying37 Try.underlying3 rfl (by kernel_rfl) (by kernel_rfl) (by kernel_rfl) hf
    exact ⟨t, by rw [← Array.toArray_toList (xs := cs), ht]⟩
  clear hA0 hval0
  refine (lawQueueAdd A0 len0 cap0 z0 t1 W hl0 hc0 hm0 w0).mono fun e W' ⟨he, bel⟩ => ?_
  subst he
  exact ⟨_, rfl, _, _, _, [], _, [], hW', trodAll_mk1 (shut_bool Try.underlying4 _), (trodAll_cons_mk (Below.trod laidOut (by kernel_rfl) (of_decide_eq_true (by kernel_rfl)) k0 bel lt0) (trodAll_cons_mk (Below.trod laidOut (by kernel_rfl) (of_decide_eq_true (by kernel_rfl)) k1 bel lt1) trodAll_mk0)), rfl, bel.frame _, fun h => by cases h⟩

theorem over : Rows.fnExactQueueAddRow.holds Try.pinned (OpenSpec.ofChange Rows.fnExactQueueAddSpec) :=
  OpenClaim.holds_of_wide 5 Try.f5 rfl rfl rfl rfl rfl rfl rfl ⟨rfl, rfl, rfl, rfl, rfl⟩ rfl rfl rfl rfl rfl (by kernel_rfl) Try.func5 (by kernel_rfl)
    (of_decide_eq_true (by kernel_rfl)) (by unfold Func.isWrapper; first | (rw [if_pos (by decide +kernel)]; kernel_rfl) | (rw [if_neg (by decide +kernel)]; exact ⟨rfl, rfl⟩))
    (fun os started H enc _ => lifted os started H enc)

theorem proved : Rows.FnExactQueueAddSaid := over
end FnExactQueueAdd
end Go.Proofs.Ytaklfalkpkifmaa
