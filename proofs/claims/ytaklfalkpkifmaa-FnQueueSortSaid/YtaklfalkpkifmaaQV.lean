/-
  'FnExactQueueSort' returns true, for every slice of timed things: both packages' 'QueueSort' answer alike.
  Conditions: none.
-/
import Derived.Test.YtaklfalkpkifmaaQU
import Derived.Test.YtaklfalkpkifmaaQT
import Derived.Test.YtaklfalkpkifmaaOpen
namespace Go.Proofs.Ytaklfalkpkifmaa
open Go.RowKit Rg
set_option linter.unusedVariables false
theorem addAll_len (ts : List Tm) : ∀ (q r : List Tm), q.length ≤ 20 → addAll q ts = some r → r.length ≤ 20 := by
  induction ts with
  | nil => intro q r h hr; simp [addAll] at hr; subst hr; exact h
  | cons t ts ih =>
    intro q r h hr
    unfold addAll at hr
    split at hr
    · rename_i h1
      exact ih _ r (addL_len20 h1) hr
    · cases hr
theorem sortL_len (xs : List Tm) : (sortL xs).length ≤ 1048576 := by
  unfold sortL
  split
  · rename_i q hq
    exact (tillQ_len 999 q (by have := addAll_len xs [] q (by simp) hq; omega)).2
  · simp

set_option maxHeartbeats 2000000 in
theorem lawQueueSort (A : Option Addr) (n c : Nat) (xs : List Tm) (w : World) (hn : n = xs.length) (hc : n ≤ c) (hcm : c ≤ maxLen) (hs : Sl encT 3 w 0 w.heap.size A xs) :
    Calls Try.prog 11 #[.slice A n c] w fun e w' => e = .returned (.bool true) ∧ Below w.heap.size w w' := by
  have hn' := hide hn
  clear hn
  have hnm : n ≤ maxLen := Nat.le_trans hc hcm
  by_cases hb : n ≤ 1048576
  · have hbx : xs.length ≤ 1048576 := by have := hn'.out; omega
    have hbL := sortL_len xs
    go_enter Try.func11, Try.ntmps11
    go_wp2_with fail
    refine (sz_c A n c _ hnm).mono ?_
    rintro e w0 ⟨rfl, hw0⟩
    simp only [hb, if_true]
    have hW : Below w.heap.size w w0 := hw0 ▸ Below.refl _ _
    clear hw0
    go_wp2_with fail
    refine (toTimedS_c A n c 0 _ xs w0 hn'.out hb (hs.below hW (Nat.le_refl _)) hW.size).mono ?_
    rintro e w1 ⟨vp, rfl, hop, hb1⟩
    have hB1 : Below w.heap.size w w1 := hW.trans (hb1.mono hW.size)
    obtain ⟨Ap, cAp, rfl, _, _, _⟩ := (hop.mono hW.size).form
    have p_1 := (hop.mono hW.size)
    have hb1 := hb1
    go_wp2_with fail
    refine (specQueueSort_c Ap xs.length cAp _ _ xs _ rfl hbx (p_1.slAt encT_len).2.2 (Nat.le_refl _)).mono ?_
    rintro e w2 ⟨vw, rfl, how, hb2⟩
    have hB2 : Below w.heap.size w w2 := hB1.trans (hb2.mono hB1.size)
    have p_2 := p_1.below hb2 (Nat.le_refl _)
    obtain ⟨Aw, cAw, rfl, _, _, _⟩ := (how.mono hB1.size).form
    have w_2 := (how.mono hB1.size)
    have ne_p_w : ∀ b, (Value.slice Ap xs.length cAp).ownBlock = some b → (Value.slice Aw (sortL xs).length cAw).ownBlock = some b → False := fun b h1 h2 => (by have g1 := (p_1.lt b h1).2; have g2 := (how.lt b h2).1; omega)
    have hb2 := hb2
    go_wp2_with fail
    refine (toTimedS_c A n c 0 _ xs w2 hn'.out hb (hs.below hB2 (Nat.le_refl _)) hB2.size).mono ?_
    rintro e w3 ⟨vx, rfl, hox, hb3⟩
    have hB3 : Below w.heap.size w w3 := hB2.trans (hb3.mono hB2.size)
    have p_3 := p_2.below hb3 (Nat.le_refl _)
    have w_3 := w_2.below hb3 (Nat.le_refl _)
    obtain ⟨Ax, cAx, rfl, _, _, _⟩ := (hox.mono hB2.size).form
    have x_3 := (hox.mono hB2.size)
    have ne_p_x : ∀ b, (Value.slice Ap xs.length cAp).ownBlock = some b → (Value.slice Ax xs.length cAx).ownBlock = some b → False := fun b h1 h2 => (by have g1 := (p_2.lt b h1).2; have g2 := (hox.lt b h2).1; omega)
    have ne_w_x : ∀ b, (Value.slice Aw (sortL xs).length cAw).ownBlock = some b → (Value.slice Ax xs.length cAx).ownBlock = some b → False := fun b h1 h2 => (by have g1 := (w_2.lt b h1).2; have g2 := (hox.lt b h2).1; omega)
    have hb3 := hb3
    go_wp2_with fail
    refine (QueueSort_c Ax xs.length cAx _ _ xs _ rfl hbx (x_3.slAt encT_len).2.2 (Nat.le_refl _)).mono ?_
    rintro e w4 ⟨vg, rfl, hog, hb4⟩
    have hB4 : Below w.heap.size w w4 := hB3.trans (hb4.mono hB3.size)
    have p_4 := p_3.below hb4 (Nat.le_refl _)
    have w_4 := w_3.below hb4 (Nat.le_refl _)
    have x_4 := x_3.below hb4 (Nat.le_refl _)
    obtain ⟨Ag, cAg, rfl, _, _, _⟩ := (hog.mono hB3.size).form
    have g_4 := (hog.mono hB3.size)
    have ne_p_g : ∀ b, (Value.slice Ap xs.length cAp).ownBlock = some b → (Value.slice Ag (sortL xs).length cAg).ownBlock = some b → False := fun b h1 h2 => (by have g1 := (p_3.lt b h1).2; have g2 := (hog.lt b h2).1; omega)
    have ne_w_g : ∀ b, (Value.slice Aw (sortL xs).length cAw).ownBlock = some b → (Value.slice Ag (sortL xs).length cAg).ownBlock = some b → False := fun b h1 h2 => (by have g1 := (w_3.lt b h1).2; have g2 := (hog.lt b h2).1; omega)
    have ne_x_g : ∀ b, (Value.slice Ax xs.length cAx).ownBlock = some b → (Value.slice Ag (sortL xs).length cAg).ownBlock = some b → False := fun b h1 h2 => (by have g1 := (x_3.lt b h1).2; have g2 := (hog.lt b h2).1; omega)
    have hb4 := hb4
    go_wp2_with fail
    refine (eqSame_c g_4 w_4 hbL).mono ?_
    rintro e w5 ⟨rfl, hb5⟩
    have hB5 : Below w.heap.size w w5 := hB4.trans (hb5.mono hB4.size)
    have p_5 := p_4.below hb5 (Nat.le_refl _)
    have w_5 := w_4.below hb5 (Nat.le_refl _)
    have x_5 := x_4.below hb5 (Nat.le_refl _)
    have g_5 := g_4.below hb5 (Nat.le_refl _)
    have hb5 := hb5
    go_wp2_with fail
    refine (toTimedS_c A n c 0 _ xs w5 hn'.out hb (hs.below hB5 (Nat.le_refl _)) hB5.size).mono ?_
    rintro e w6 ⟨vy, rfl, hoy, hb6⟩
    have hB6 : Below w.heap.size w w6 := hB5.trans (hb6.mono hB5.size)
    have p_6 := p_5.below hb6 (Nat.le_refl _)
    have w_6 := w_5.below hb6 (Nat.le_refl _)
    have x_6 := x_5.below hb6 (Nat.le_refl _)
    have g_6 := g_5.below hb6 (Nat.le_refl _)
    obtain ⟨Ay, cAy, rfl, _, _, _⟩ := (hoy.mono hB5.size).form
    have y_6 := (hoy.mono hB5.size)
    have ne_p_y : ∀ b, (Value.slice Ap xs.length cAp).ownBlock = some b → (Value.slice Ay xs.length cAy).ownBlock = some b → False := fun b h1 h2 => (by have g1 := (p_5.lt b h1).2; have g2 := (hoy.lt b h2).1; omega)
    have ne_w_y : ∀ b, (Value.slice Aw (sortL xs).length cAw).ownBlock = some b → (Value.slice Ay xs.length cAy).ownBlock = some b → False := fun b h1 h2 => (by have g1 := (w_5.lt b h1).2; have g2 := (hoy.lt b h2).1; omega)
    have ne_x_y : ∀ b, (Value.slice Ax xs.length cAx).ownBlock = some b → (Value.slice Ay xs.length cAy).ownBlock = some b → False := fun b h1 h2 => (by have g1 := (x_5.lt b h1).2; have g2 := (hoy.lt b h2).1; omega)
    have ne_g_y : ∀ b, (Value.slice Ag (sortL xs).length cAg).ownBlock = some b → (Value.slice Ay xs.length cAy).ownBlock = some b → False := fun b h1 h2 => (by have g1 := (g_5.lt b h1).2; have g2 := (hoy.lt b h2).1; omega)
    have hb6 := hb6
    go_wp2_with fail
    refine (eqSame_c x_6 y_6 hbx).mono ?_
    rintro e w7 ⟨rfl, hb7⟩
    have hB7 : Below w.heap.size w w7 := hB6.trans (hb7.mono hB6.size)
    have p_7 := p_6.below hb7 (Nat.le_refl _)
    have w_7 := w_6.below hb7 (Nat.le_refl _)
    have x_7 := x_6.below hb7 (Nat.le_refl _)
    have g_7 := g_6.below hb7 (Nat.le_refl _)
    have y_7 := y_6.below hb7 (Nat.le_refl _)
    have hb7 := hb7
    go_wp2_with fail
    refine (markO_c (k := 1) (by omega) (by omega) x_7 hbx).mono ?_
    rintro e w8 ⟨rfl, hmx, hon8⟩
    have hB8 : Below w.heap.size w w8 := hB7.trans (hon8.toBelow hB7.size (fun k hk => (x_7.lt k hk).1))
    have p_8 := p_7.only hon8 (Nat.le_refl _) (fun b h1 h2 => ne_p_x b h1 h2)
    have w_8 := w_7.only hon8 (Nat.le_refl _) (fun b h1 h2 => ne_w_x b h1 h2)
    have g_8 := g_7.only hon8 (Nat.le_refl _) (fun b h1 h2 => ne_x_g b h2 h1)
    have y_8 := y_7.only hon8 (Nat.le_refl _) (fun b h1 h2 => ne_x_y b h2 h1)
    have x_8 := hmx
    have q1 : decide ((1 : Int) + 3 * (xs.length : Int) < 0) = false := by simp; omega
    go_wp2_with fail
    refine (eqSame_c g_8 w_8 hbL).mono ?_
    rintro e w9 ⟨rfl, hb9⟩
    have hB9 : Below w.heap.size w w9 := hB8.trans (hb9.mono hB8.size)
    have p_9 := p_8.below hb9 (Nat.le_refl _)
    have w_9 := w_8.below hb9 (Nat.le_refl _)
    have x_9 := x_8.below hb9 (Nat.le_refl _)
    have g_9 := g_8.below hb9 (Nat.le_refl _)
    have y_9 := y_8.below hb9 (Nat.le_refl _)
    have hb9 := hb9
    go_wp2_with fail
    refine (markO_c (k := 1) (by omega) (by omega) g_9 hbL).mono ?_
    rintro e w10 ⟨rfl, hmg, hon10⟩
    have hB10 : Below w.heap.size w w10 := hB9.trans (hon10.toBelow hB9.size (fun k hk => (g_9.lt k hk).1))
    have p_10 := p_9.only hon10 (Nat.le_refl _) (fun b h1 h2 => ne_p_g b h1 h2)
    have w_10 := w_9.only hon10 (Nat.le_refl _) (fun b h1 h2 => ne_w_g b h1 h2)
    have x_10 := x_9.only hon10 (Nat.le_refl _) (fun b h1 h2 => ne_x_g b h1 h2)
    have y_10 := y_9.only hon10 (Nat.le_refl _) (fun b h1 h2 => ne_g_y b h2 h1)
    have g_10 := hmg
    go_wp2_with fail
    refine (heldO_c (k := 1) (by omega) (by omega) g_10 hbL).mono ?_
    rintro e w' ⟨rfl, rfl⟩
    have q2 : decide ((1 : Int) + 3 * ((sortL xs).length : Int) < 0) = false := by simp; omega
    go_wp2_with fail
    refine (toTimedS_c A n c 0 _ xs w10 hn'.out hb (hs.below hB10 (Nat.le_refl _)) hB10.size).mono ?_
    rintro e w11 ⟨vz, rfl, hoz, hb11⟩
    have hB11 : Below w.heap.size w w11 := hB10.trans (hb11.mono hB10.size)
    have p_11 := p_10.below hb11 (Nat.le_refl _)
    have w_11 := w_10.below hb11 (Nat.le_refl _)
    have x_11 := x_10.below hb11 (Nat.le_refl _)
    have g_11 := g_10.below hb11 (Nat.le_refl _)
    have y_11 := y_10.below hb11 (Nat.le_refl _)
    obtain ⟨Az, cAz, rfl, _, _, _⟩ := (hoz.mono hB10.size).form
    have z_11 := (hoz.mono hB10.size)
    have ne_p_z : ∀ b, (Value.slice Ap xs.length cAp).ownBlock = some b → (Value.slice Az xs.length cAz).ownBlock = some b → False := fun b h1 h2 => (by have g1 := (p_10.lt b h1).2; have g2 := (hoz.lt b h2).1; omega)
    have ne_w_z : ∀ b, (Value.slice Aw (sortL xs).length cAw).ownBlock = some b → (Value.slice Az xs.length cAz).ownBlock = some b → False := fun b h1 h2 => (by have g1 := (w_10.lt b h1).2; have g2 := (hoz.lt b h2).1; omega)
    have ne_x_z : ∀ b, (Value.slice Ax xs.length cAx).ownBlock = some b → (Value.slice Az xs.length cAz).ownBlock = some b → False := fun b h1 h2 => (by have g1 := (x_10.lt b h1).2; have g2 := (hoz.lt b h2).1; omega)
    have ne_g_z : ∀ b, (Value.slice Ag (sortL xs).length cAg).ownBlock = some b → (Value.slice Az xs.length cAz).ownBlock = some b → False := fun b h1 h2 => (by have g1 := (g_10.lt b h1).2; have g2 := (hoz.lt b h2).1; omega)
    have ne_y_z : ∀ b, (Value.slice Ay xs.length cAy).ownBlock = some b → (Value.slice Az xs.length cAz).ownBlock = some b → False := fun b h1 h2 => (by have g1 := (y_10.lt b h1).2; have g2 := (hoz.lt b h2).1; omega)
    have hb11 := hb11
    go_wp2_with fail
    refine (QueueSort_c Az xs.length cAz _ _ xs _ rfl hbx (z_11.slAt encT_len).2.2 (Nat.le_refl _)).mono ?_
    rintro e w12 ⟨vh, rfl, hoh, hb12⟩
    have hB12 : Below w.heap.size w w12 := hB11.trans (hb12.mono hB11.size)
    have p_12 := p_11.below hb12 (Nat.le_refl _)
    have w_12 := w_11.below hb12 (Nat.le_refl _)
    have x_12 := x_11.below hb12 (Nat.le_refl _)
    have g_12 := g_11.below hb12 (Nat.le_refl _)
    have y_12 := y_11.below hb12 (Nat.le_refl _)
    have z_12 := z_11.below hb12 (Nat.le_refl _)
    obtain ⟨Ah, cAh, rfl, _, _, _⟩ := (hoh.mono hB11.size).form
    have h_12 := (hoh.mono hB11.size)
    have ne_p_h : ∀ b, (Value.slice Ap xs.length cAp).ownBlock = some b → (Value.slice Ah (sortL xs).length cAh).ownBlock = some b → False := fun b h1 h2 => (by have g1 := (p_11.lt b h1).2; have g2 := (hoh.lt b h2).1; omega)
    have ne_w_h : ∀ b, (Value.slice Aw (sortL xs).length cAw).ownBlock = some b → (Value.slice Ah (sortL xs).length cAh).ownBlock = some b → False := fun b h1 h2 => (by have g1 := (w_11.lt b h1).2; have g2 := (hoh.lt b h2).1; omega)
    have ne_x_h : ∀ b, (Value.slice Ax xs.length cAx).ownBlock = some b → (Value.slice Ah (sortL xs).length cAh).ownBlock = some b → False := fun b h1 h2 => (by have g1 := (x_11.lt b h1).2; have g2 := (hoh.lt b h2).1; omega)
    have ne_g_h : ∀ b, (Value.slice Ag (sortL xs).length cAg).ownBlock = some b → (Value.slice Ah (sortL xs).length cAh).ownBlock = some b → False := fun b h1 h2 => (by have g1 := (g_11.lt b h1).2; have g2 := (hoh.lt b h2).1; omega)
    have ne_y_h : ∀ b, (Value.slice Ay xs.length cAy).ownBlock = some b → (Value.slice Ah (sortL xs).length cAh).ownBlock = some b → False := fun b h1 h2 => (by have g1 := (y_11.lt b h1).2; have g2 := (hoh.lt b h2).1; omega)
    have ne_z_h : ∀ b, (Value.slice Az xs.length cAz).ownBlock = some b → (Value.slice Ah (sortL xs).length cAh).ownBlock = some b → False := fun b h1 h2 => (by have g1 := (z_11.lt b h1).2; have g2 := (hoh.lt b h2).1; omega)
    have hb12 := hb12
    go_wp2_with fail
    refine (eqSame_c h_12 w_12 hbL).mono ?_
    rintro e w13 ⟨rfl, hb13⟩
    have hB13 : Below w.heap.size w w13 := hB12.trans (hb13.mono hB12.size)
    have p_13 := p_12.below hb13 (Nat.le_refl _)
    have w_13 := w_12.below hb13 (Nat.le_refl _)
    have x_13 := x_12.below hb13 (Nat.le_refl _)
    have g_13 := g_12.below hb13 (Nat.le_refl _)
    have y_13 := y_12.below hb13 (Nat.le_refl _)
    have z_13 := z_12.below hb13 (Nat.le_refl _)
    have h_13 := h_12.below hb13 (Nat.le_refl _)
    have hb13 := hb13
    go_wp2_with fail
    refine (heldO_c (k := 1) (by omega) (by omega) g_13 hbL).mono ?_
    rintro e w' ⟨rfl, rfl⟩
    go_wp2
    go_ret
    exact ⟨rfl, hB13⟩
  · go_enter Try.func11, Try.ntmps11
    go_wp2_with fail
    refine (sz_c A n c _ hnm).mono ?_
    rintro e w0 ⟨rfl, rfl⟩
    simp only [hb, if_false]
    go_wp2
    go_ret
    exact ⟨rfl, Below.refl _ _⟩

/-! ### The row of 'laws.FnExactQueueSort' -/
namespace FnExactQueueSort
open Go.ChangeShapes Go.WideShapes Go.ChangeAt Go.RowKit
open Go.ChangeMaps (open_string shut_string)
theorem own : ownKnob Try.prog.godebug = none := by kernel_rfl
theorem laidOut : laidOutB Try.prog = true := by kernel_rfl

set_option maxRecDepth 100000 in
theorem lifted (os : Os) (started : os.Started) (H : Type) (enc : TypeId × Value → H) :
    ReturnsInHanded {} Try.checked os 11 .any (Rows.fnExactQueueSortSpec.pre6 enc Try.prog Try.f11 Rows.fnExactQueueSortRow.domain false) (Rows.fnExactQueueSortSpec.post enc Try.prog Try.f11 false true false false) := by
  refine returnsInHanded_of_change (C := Try.checked) own started (by kernel_rfl) Try.func11
    (ChangeSpec.witness6 (enc := enc) (C := Try.checked) false ⟨#[], #[.slice none 0 0], []⟩ 8 (by kernel_rfl) (by kernel_rfl) (by kernel_rfl) (by kernel_rfl)) ?_
  intro W base args ds gs before hval0 hW hcnd _
  have hval : ∀ (j : Nat) t v, Try.f11.params[j]? = some t → args[j]? = some v → Value.okWide Try.prog W .any base t v := hval0
  have hW' := hW
  obtain ⟨p, q, hA0, hV, rfl, hfz, hnd⟩ := hW
  have hA : DataW.TrodAll enc Try.prog W 0 (fun _ => true) true Try.f11.params.toList args.toList ds p := hA0
  rw [Try.params11] at hA hval
  obtain ⟨v0, vs0, d0, ds0, p0, q0, hargs, rfl, rfl, h0, r0⟩ := trodAll_cons hA
  obtain ⟨rfl, rfl, rfl⟩ := trodAll_nil r0
  obtain rfl : args = #[v0] := by cases args; simp_all
  obtain ⟨rfl, rfl⟩ := trodVars_none hV
  have k0 := h0
  have lt0 : ∀ x ∈ p0, x.block < W.heap.size := by obtain ⟨m, hm⟩ := k0; exact DataW.trod_lt m _ _ _ hm
  obtain ⟨A0, len0, cap0, z0, rfl, hl0, hc0, hm0, w0, g0⟩ : ∃ A len cap, ∃ xs : List Tm, v0 = .slice A len cap ∧ len = xs.length ∧ len ≤ cap ∧ cap ≤ maxLen ∧ Sl encT 3 W 0 W.heap.size A xs ∧ ∀ x ∈ xs, (fun _ => True) x := by
    obtain ⟨fuel, hf⟩ := h0
    obtain ⟨a0, len0, cap0, rfl⟩ := okWide_slice Try.underlying22 (hval 0 22 v0 rfl rfl)
    simp only [Value.cells] at hf
    exact trod_sl (encA := encT) (sz := 3) (Good := fun _ => True) Try.underlying22 (by kernel_rfl) (by omega) encT_len hf (fun n cs y hy => trod_int3 Try.underlying37 Try.underlying3 rfl (by kernel_rfl) (by kernel_rfl) (by kernel_rfl) hy)
  clear hA0 hval0
  refine (lawQueueSort A0 len0 cap0 z0 W hl0 hc0 hm0 w0).mono fun e W' ⟨he, bel⟩ => ?_
  subst he
  exact ⟨_, rfl, _, _, _, [], _, [], hW', trodAll_mk1 (shut_bool Try.underlying4 _), (trodAll_cons_mk (Below.trod laidOut (by kernel_rfl) (of_decide_eq_true (by kernel_rfl)) k0 bel lt0) trodAll_mk0), rfl, bel.frame _, fun h => by cases h⟩

theorem over : Rows.fnExactQueueSortRow.holds Try.pinned (OpenSpec.ofChange Rows.fnExactQueueSortSpec) :=
  OpenClaim.holds_of_wide 11 Try.f11 rfl rfl rfl rfl rfl rfl rfl ⟨rfl, rfl, rfl, rfl, rfl⟩ rfl rfl rfl rfl rfl (by kernel_rfl) Try.func11 (by kernel_rfl)
    (of_decide_eq_true (by kernel_rfl)) (by unfold Func.isWrapper; first | (rw [if_pos (by decide +kernel)]; kernel_rfl) | (rw [if_neg (by decide +kernel)]; exact ⟨rfl, rfl⟩))
    (fun os started H enc _ => lifted os started H enc)

theorem proved : Rows.FnExactQueueSortSaid := over
end FnExactQueueSort
end Go.Proofs.Ytaklfalkpkifmaa
