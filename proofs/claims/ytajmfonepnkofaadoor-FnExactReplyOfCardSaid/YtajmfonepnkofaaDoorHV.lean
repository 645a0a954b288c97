/-
  'act' (the program's game): hit. (Printed by gen_hv.py.)
  Conditions: none.
-/
import Derived.Test.YtajmfonepnkofaaDoorHU
import Derived.Test.YtajmfonepnkofaaDoorRegK
namespace Go.Proofs.YtajmfonepnkofaaDoor
open Go.RowKit Rg
set_option linter.unusedVariables false
set_option linter.unusedSimpArgs false


set_option maxRecDepth 100000 in
set_option maxHeartbeats 2000000 in
theorem actHit (bx lo gB gE : Nat) (A : Option Addr) (n : Nat) (g : GameT) (r : AskT) (w : World) (hbx : Bx3 w bx (.slice A n n) (.slice (some ⟨gB, 0, none⟩) 16 16) (.slice (some ⟨gE, 0, none⟩) 4 4) 35) (ho : GmO w lo A n n (some ⟨gB, 0, none⟩) 16 16 (some ⟨gE, 0, none⟩) 4 4 g)
    (hlo : lo ≤ bx) (hnA : ∀ k, (Value.slice A n n).ownBlock = some k → k ≠ bx) (hnB : gB ≠ bx) (hnE : gE ≠ bx) (hok : okG' g) (hr : okA r) (k : Nat) (hfi : figI g.1 r.1 = some k) (hop : r.2.2.1 = 4) (i : Nat) (hfj : figI g.1 r.2.2.2.1 = some i) (hik : ¬ i = k) (hnear : ∀ (hk : k < g.1.length) (hi : i < g.1.length), nearE g.1[k] g.1[i]) :
    Calls Tryd.prog 44 #[.pointer (some ⟨bx, 0, none⟩), .agg #[.int .i64 r.1, .int .i64 r.2.1, .int .i64 r.2.2.1, .int .i64 r.2.2.2.1, .int .i64 r.2.2.2.2]] w fun e w' => ActPost bx lo gB gE w (behG g r) e w' := by
  have hA1 := (Below.refl w.heap.size w).alloc (Nat.le_refl _) (.cells #[.int .i64 r.1, .int .i64 r.2.1, .int .i64 r.2.2.1, .int .i64 r.2.2.2.1, .int .i64 r.2.2.2.2] 37)
  have hbr1 := Bx5.made w r 37
  have hbx1 := hbx.below hA1 hbx.lt
  have ho1 := hide (ho.below hA1)
  have hz1 : w.heap.size + 1 ≤ (w.alloc (.cells #[.int .i64 r.1, .int .i64 r.2.1, .int .i64 r.2.2.1, .int .i64 r.2.2.2.1, .int .i64 r.2.2.2.2] 37)).heap.size := by simp only [World.size_alloc]; omega
  have hbl := hbx.lt
  obtain ⟨xx0, xx1, xx2, xf0, xf1, xf2⟩ := hbx1.cells
  obtain ⟨rr0, rr1, rr2, rr3, rr4, -⟩ := hbr1.cells
  have hlx := hbx1.lt
  have hlr := hbr1.lt
  have hn' := hide ho.en.lenEq
  have hn4 : n ≤ 4 := by
    have h3 := inc_len hok.inc (fun e he => (hok.ent e he).1)
    have := hn'.out
    omega
  have hok' := hide hok
  have hrH := hide hr
  have hnA' := hide hnA
  have hoH := hide ho
  clear hok hr ho hbx hnA
  have hq1 : (r.2.2.1 == 1) = false := by simp <;> omega
  have hq2 : (r.2.2.1 == 2) = false := by simp <;> omega
  have hq3 : (r.2.2.1 == 3) = false := by simp <;> omega
  have hbe := hide (behG_act hfi (show r.2.2.1 ≠ 1 by omega))
  have hik' : (((i : Nat) : Int) == ((k : Nat) : Int)) = false := by simp <;> omega
  have hikh := hide hik
  have hk := figI_lt hfi
  have hkn : k < n := by have := hn'.out; omega
  obtain ⟨gA, rfl, hgA1, hgA2⟩ := ho1.out.en.addrAt (show 0 < n by omega)
  have hAx : gA ≠ bx := hnA'.out gA rfl
  obtain ⟨hAB, hAE, hBE⟩ := ho1.out.sep
  have hAw := (hoH.out.en.lt gA rfl).2
  have hBw := (hoH.out.fl.lt gB rfl).2
  have hAw1 : ¬ w.heap.size = gA := by omega
  have hAw2 : ¬ gA = w.heap.size := by omega
  have hBw1 : ¬ w.heap.size = gB := by omega
  have hBw2 : ¬ gB = w.heap.size := by omega
  have hek := (okG'.full hok'.out).ent _ (List.getElem_mem hk)
  unfold entOk rng at hek
  have hk0 : decide ((k : Int) < 0) = false := by simp <;> omega
  have hi := figI_lt hfj
  have hin : i < n := by have := hn'.out; omega
  have hei := (okG'.full hok'.out).ent _ (List.getElem_mem hi)
  unfold entOk rng at hei
  have hi0 : decide ((i : Int) < 0) = false := by simp <;> omega
  have hact := hide (show behG g r = if g.1[i].2.2.2.1 - 1 ≤ 0 then ((g.1.eraseIdx i, g.2.1.set (sqr g.1[i]) (g.2.1.getD (sqr g.1[i]) 0 + g.1[i].2.2.2.2), g.2.2), 0) else ((g.1.set i (hitE g.1[i]), g.2.1, g.2.2), 0) by rw [hbe.out, actG_some k (by omega) (by omega) hfj]; exact other_hit hk hi hik (hnear hk hi) (by omega))
  have hnq : decide (nearE g.1[k] g.1[i]) = true := by simpa using hnear hk hi
  have hq5 : (r.2.2.1 == 5) = false := by simp <;> omega
  clear hop hik hnear
  cases e2 : decide (g.1[i].2.2.2.1 - 1 ≤ 0)
  · have hh := hide (show behG g r = ((g.1.set i (hitE g.1[i]), g.2.1, g.2.2), 0) by rw [hact.out, if_neg (by simpa using e2)])
    go_enter Tryd.func44, Tryd.ntmps44
    go_wp2
    generalize w.alloc (.cells #[.int .i64 r.1, .int .i64 r.2.1, .int .i64 r.2.2.1, .int .i64 r.2.2.2.1, .int .i64 r.2.2.2.2] 37) = w1 at *
    refine wp_region_T (fun _ => True) [] [] [] [0, 1, 2, 3, 4, 5, 6] (by kernel_rfl) (by kernel_rfl) (by kernel_rfl) trivial ?_; simp only [pickL, List.getElem?_cons_succ, List.getElem?_cons_zero]
    go_wp2_with (first
      | (go_at_call 70; refine (figure_some _ n n (some ⟨gB, 0, none⟩) 16 16 (some ⟨gE, 0, none⟩) 4 4 lo w1.heap.size r.1 g.1 w1.drew (show RdN 5 (flatR encEnt) w1.drew lo w1.heap.size _ n n g.1 from Own.rdn (w := w1.drew) encEnt_len ho1.out.en.drew) (Nat.le_refl _) k hfi).mono ?_; rintro e w2 ⟨rfl, hb2⟩; have hb12 : Below w1.heap.size w1 w2 := Below.appR (Below.drew (Below.refl _ _)) hb2; have hbx2 := hbx1.below hb12 hlx; have hbr2 := hbr1.below hb12 hlr; have ho2 := hide (ho1.out.below hb12); have hz2 := hb12.size; have hB2 : Below lo w w2 := (hA1.mono (by omega)).trans (hb12.mono (by omega)); clear xx0 xx1 xx2 xf0 xf1 xf2 rr0 rr1 rr2 rr3 rr4; obtain ⟨xx0, xx1, xx2, xf0, xf1, xf2⟩ := hbx2.cells; obtain ⟨rr0, rr1, rr2, rr3, rr4, -⟩ := hbr2.cells; have hlx2 := hbx2.lt; have hlr2 := hbr2.lt)
      | ((with_reducible refine wpT_noL ?_ ?_); (focus (first | exact wanted_no _ _ _ rfl rfl rfl | exact wanted_un _ _ _ rfl rfl rfl)); simp only [setO, List.set_cons_succ, List.set_cons_zero]) | ((with_reducible refine wpT_q0 ?_ ?_ ?_ ?_); (focus rfl); (focus rfl); (focus rfl); intro K hK) | ((with_reducible refine wpT_i ?_ ?_); (focus (refine ⟨_, _, _, _, _, _, _, _, rfl, rfl, rfl, rfl, rfl, ?_⟩; omega)); intro K hK) | ((with_reducible refine wpT_ncw ?_ ?_ ?_); (focus (first | exact .inl rfl | exact .inr (wanted_yes _ _ _ rfl rfl rfl))); (focus exact ⟨_, _, rfl, rfl, rfl⟩); intro K hK) | ((with_reducible refine wpT_x0 ?_ ?_ ?_); (focus rfl); (focus rfl); intro K hK) | ((with_reducible refine wpT_q1 ?_ ?_ ?_ ?_); (focus exact wanted_yes _ _ _ rfl rfl rfl); (focus rfl); (focus rfl); intro K hK) | ((with_reducible refine wpT_x1 ?_ ?_ ?_); (focus exact wanted_yes _ _ _ rfl rfl rfl); (focus rfl); intro K hK) | ((with_reducible refine wpT_nil ?_); try dsimp only)
      | fail)
    obtain ⟨d0, d1, d2, d3, d4⟩ := (ho2.out.en.slAt encEnt_len).2.2.getEnt hk
    simp only [Nat.zero_add] at d0 d1 d2 d3 d4
    have df0 := ho2.out.en.frozen (k * 5)
    have df1 := ho2.out.en.frozen (k * 5 + 1)
    have df2 := ho2.out.en.frozen (k * 5 + 2)
    have df3 := ho2.out.en.frozen (k * 5 + 3)
    have df4 := ho2.out.en.frozen (k * 5 + 4)
    have hgA3 := (ho2.out.en.lt gA rfl).2
    go_wp2
    refine wp_region_T (fun _ => True) [] [] [] [0, 1, 2, 3, 4, 5, 6] (by kernel_rfl) (by kernel_rfl) (by kernel_rfl) trivial ?_; simp only [pickL, List.getElem?_cons_succ, List.getElem?_cons_zero]
    go_wp2_with (first
      | (go_at_call 70; refine (figure_some (some ⟨gA, 0, none⟩) n n (some ⟨gB, 0, none⟩) 16 16 (some ⟨gE, 0, none⟩) 4 4 lo w2.heap.size r.2.2.2.1 g.1 w2.drew (show RdN 5 (flatR encEnt) w2.drew lo w2.heap.size (some ⟨gA, 0, none⟩) n n g.1 from Own.rdn (w := w2.drew) encEnt_len ho2.out.en.drew) (Nat.le_refl _) i hfj).mono ?_; rintro e w3 ⟨rfl, hb3⟩; have hb23 : Below w2.heap.size w2 w3 := Below.appR (Below.drew (Below.refl _ _)) hb3; have hbx3 := hbx2.below hb23 hlx2; have hbr3 := hbr2.below hb23 hlr2; have ho3 := hide (ho2.out.below hb23); have hz3 := hb23.size; have hB3 : Below lo w w3 := hB2.trans (hb23.mono (by omega)); clear xx0 xx1 xx2 xf0 xf1 xf2 rr0 rr1 rr2 rr3 rr4; obtain ⟨xx0, xx1, xx2, xf0, xf1, xf2⟩ := hbx3.cells; obtain ⟨rr0, rr1, rr2, rr3, rr4, -⟩ := hbr3.cells; have hlx3 := hbx3.lt; have hlr3 := hbr3.lt; clear d0 d1 d2 d3 d4 df0 df1 df2 df3 df4; obtain ⟨d0, d1, d2, d3, d4⟩ := (ho3.out.en.slAt encEnt_len).2.2.getEnt hk; simp only [Nat.zero_add] at d0 d1 d2 d3 d4; have df0 := ho3.out.en.frozen (k * 5); have df1 := ho3.out.en.frozen (k * 5 + 1); have df2 := ho3.out.en.frozen (k * 5 + 2); have df3 := ho3.out.en.frozen (k * 5 + 3); have df4 := ho3.out.en.frozen (k * 5 + 4); have hgA4 := (ho3.out.en.lt gA rfl).2)
      | ((with_reducible refine wpT_noL ?_ ?_); (focus (first | exact wanted_no _ _ _ rfl rfl rfl | exact wanted_un _ _ _ rfl rfl rfl)); simp only [setO, List.set_cons_succ, List.set_cons_zero]) | ((with_reducible refine wpT_q0 ?_ ?_ ?_ ?_); (focus rfl); (focus rfl); (focus rfl); intro K hK) | ((with_reducible refine wpT_i ?_ ?_); (focus (refine ⟨_, _, _, _, _, _, _, _, rfl, rfl, rfl, rfl, rfl, ?_⟩; omega)); intro K hK) | ((with_reducible refine wpT_ncw ?_ ?_ ?_); (focus (first | exact .inl rfl | exact .inr (wanted_yes _ _ _ rfl rfl rfl))); (focus exact ⟨_, _, rfl, rfl, rfl⟩); intro K hK) | ((with_reducible refine wpT_x0 ?_ ?_ ?_); (focus rfl); (focus rfl); intro K hK) | ((with_reducible refine wpT_q1 ?_ ?_ ?_ ?_); (focus exact wanted_yes _ _ _ rfl rfl rfl); (focus rfl); (focus rfl); intro K hK) | ((with_reducible refine wpT_x1 ?_ ?_ ?_); (focus exact wanted_yes _ _ _ rfl rfl rfl); (focus rfl); intro K hK) | ((with_reducible refine wpT_nil ?_); try dsimp only)
      | fail)
    obtain ⟨i0, i1, i2, i3, i4⟩ := (ho3.out.en.slAt encEnt_len).2.2.getEnt hi
    simp only [Nat.zero_add] at i0 i1 i2 i3 i4
    have if0 := ho3.out.en.frozen (i * 5)
    have if1 := ho3.out.en.frozen (i * 5 + 1)
    have if2 := ho3.out.en.frozen (i * 5 + 2)
    have if3 := ho3.out.en.frozen (i * 5 + 3)
    have if4 := ho3.out.en.frozen (i * 5 + 4)
    refine wp_region_T (fun _ => True) [] [] [] [0, 1, 2, 3, 4, 5, 6, 7, 8, 9, 10, 11, 12, 13, 14, 15, 16, 17, 18, 19, 20] (by kernel_rfl) (by kernel_rfl) (by kernel_rfl) trivial ?_; simp only [pickL, List.getElem?_cons_succ, List.getElem?_cons_zero]
    go_wp2_with (first
      | (go_at_call 73; refine (nearI_c g.1[k] g.1[i] _ ⟨hek.2.1, hek.2.2.1⟩ ⟨hei.2.1, hei.2.2.1⟩).mono ?_; rintro e w4 ⟨rfl, hb4⟩; simp only [hnq]; have hb34 : Below w3.heap.size w3 w4 := Below.appR (Below.drew (Below.refl _ _)) hb4; have hbx4 := hbx3.below hb34 hlx3; have hbr4 := hbr3.below hb34 hlr3; have ho4 := hide (ho3.out.below hb34); have hz4 := hb34.size; have hB4 : Below lo w w4 := hB3.trans (hb34.mono (by omega)); clear xx0 xx1 xx2 xf0 xf1 xf2 rr0 rr1 rr2 rr3 rr4; obtain ⟨xx0, xx1, xx2, xf0, xf1, xf2⟩ := hbx4.cells; obtain ⟨rr0, rr1, rr2, rr3, rr4, -⟩ := hbr4.cells; have hlx4 := hbx4.lt; have hlr4 := hbr4.lt; clear d0 d1 d2 d3 d4 df0 df1 df2 df3 df4; obtain ⟨d0, d1, d2, d3, d4⟩ := (ho4.out.en.slAt encEnt_len).2.2.getEnt hk; simp only [Nat.zero_add] at d0 d1 d2 d3 d4; have df0 := ho4.out.en.frozen (k * 5); have df1 := ho4.out.en.frozen (k * 5 + 1); have df2 := ho4.out.en.frozen (k * 5 + 2); have df3 := ho4.out.en.frozen (k * 5 + 3); have df4 := ho4.out.en.frozen (k * 5 + 4); clear i0 i1 i2 i3 i4 if0 if1 if2 if3 if4; obtain ⟨i0, i1, i2, i3, i4⟩ := (ho4.out.en.slAt encEnt_len).2.2.getEnt hi; simp only [Nat.zero_add] at i0 i1 i2 i3 i4; have if0 := ho4.out.en.frozen (i * 5); have if1 := ho4.out.en.frozen (i * 5 + 1); have if2 := ho4.out.en.frozen (i * 5 + 2); have if3 := ho4.out.en.frozen (i * 5 + 3); have if4 := ho4.out.en.frozen (i * 5 + 4); have hgA5 := (ho4.out.en.lt gA rfl).2)
      | ((with_reducible refine wpT_noL ?_ ?_); (focus (first | exact wanted_no _ _ _ rfl rfl rfl | exact wanted_un _ _ _ rfl rfl rfl)); simp only [setO, List.set_cons_succ, List.set_cons_zero]) | ((with_reducible refine wpT_q0 ?_ ?_ ?_ ?_); (focus rfl); (focus rfl); (focus rfl); intro K hK) | ((with_reducible refine wpT_i ?_ ?_); (focus (refine ⟨_, _, _, _, _, _, _, _, rfl, rfl, rfl, rfl, rfl, ?_⟩; omega)); intro K hK) | ((with_reducible refine wpT_ncw ?_ ?_ ?_); (focus (first | exact .inl rfl | exact .inr (wanted_yes _ _ _ rfl rfl rfl))); (focus exact ⟨_, _, rfl, rfl, rfl⟩); intro K hK) | ((with_reducible refine wpT_x0 ?_ ?_ ?_); (focus rfl); (focus rfl); intro K hK) | ((with_reducible refine wpT_q1 ?_ ?_ ?_ ?_); (focus exact wanted_yes _ _ _ rfl rfl rfl); (focus rfl); (focus rfl); intro K hK) | ((with_reducible refine wpT_x1 ?_ ?_ ?_); (focus exact wanted_yes _ _ _ rfl rfl rfl); (focus rfl); intro K hK) | ((with_reducible refine wpT_nil ?_); try dsimp only)
      | fail)
    go_ret
    rw [hh.out]
    have hp3 := ho4.out.putE hi (hitE g.1[i]) 3 (by omega) (.int .i64 (g.1[i].2.2.2.1 - 1)) rfl
    have hP : ActPost bx lo gB gE w ((g.1.set i (hitE g.1[i]), g.2.1, g.2.2), 0) (.returned (.int .i64 0)) (w4.setCell ⟨gA, i * 5 + 3, none⟩ (.int .i64 (g.1[i].2.2.2.1 - 1))) :=
      ⟨some ⟨gA, 0, none⟩, n, rfl, hbx4.keep (ne_set _ (Ne.symm hAx)), hp3, hnA'.out, hB4.setCell (p := ⟨gA, i * 5 + 3, none⟩) hgA1 _⟩
    (repeat (first | exact hP | refine ActPost.dr ?_))
  · obtain ⟨sq, hsq⟩ : ∃ s, s = sqr g.1[i] := ⟨_, rfl⟩
    have hsqe := hide (show sqr (hitE g.1[i]) = sq from hsq.symm)
    have hsl : sq < g.2.1.length := by have h16 := hok'.out.n16; rw [hsq]; unfold sqr; omega
    have hfl : 0 ≤ g.2.1[sq] ∧ g.2.1[sq] ≤ 20 := (okG'.full hok'.out).flo _ (List.getElem_mem hsl)
    have hh := hide (show behG g r = ((g.1.eraseIdx i, g.2.1.set sq (g.2.1[sq] + g.1[i].2.2.2.2), g.2.2), 0) by rw [hact.out, if_pos (by simpa using e2), ← hsq, getD_at hsl])
    clear hsq
    go_enter Tryd.func44, Tryd.ntmps44
    go_wp2
    generalize w.alloc (.cells #[.int .i64 r.1, .int .i64 r.2.1, .int .i64 r.2.2.1, .int .i64 r.2.2.2.1, .int .i64 r.2.2.2.2] 37) = w1 at *
    refine wp_region_T (fun _ => True) [] [] [] [0, 1, 2, 3, 4, 5, 6] (by kernel_rfl) (by kernel_rfl) (by kernel_rfl) trivial ?_; simp only [pickL, List.getElem?_cons_succ, List.getElem?_cons_zero]
    go_wp2_with (first
      | (go_at_call 70; refine (figure_some _ n n (some ⟨gB, 0, none⟩) 16 16 (some ⟨gE, 0, none⟩) 4 4 lo w1.heap.size r.1 g.1 w1.drew (show RdN 5 (flatR encEnt) w1.drew lo w1.heap.size _ n n g.1 from Own.rdn (w := w1.drew) encEnt_len ho1.out.en.drew) (Nat.le_refl _) k hfi).mono ?_; rintro e w2 ⟨rfl, hb2⟩; have hb12 : Below w1.heap.size w1 w2 := Below.appR (Below.drew (Below.refl _ _)) hb2; have hbx2 := hbx1.below hb12 hlx; have hbr2 := hbr1.below hb12 hlr; have ho2 := hide (ho1.out.below hb12); have hz2 := hb12.size; have hB2 : Below lo w w2 := (hA1.mono (by omega)).trans (hb12.mono (by omega)); clear xx0 xx1 xx2 xf0 xf1 xf2 rr0 rr1 rr2 rr3 rr4; obtain ⟨xx0, xx1, xx2, xf0, xf1, xf2⟩ := hbx2.cells; obtain ⟨rr0, rr1, rr2, rr3, rr4, -⟩ := hbr2.cells; have hlx2 := hbx2.lt; have hlr2 := hbr2.lt)
      | ((with_reducible refine wpT_noL ?_ ?_); (focus (first | exact wanted_no _ _ _ rfl rfl rfl | exact wanted_un _ _ _ rfl rfl rfl)); simp only [setO, List.set_cons_succ, List.set_cons_zero]) | ((with_reducible refine wpT_q0 ?_ ?_ ?_ ?_); (focus rfl); (focus rfl); (focus rfl); intro K hK) | ((with_reducible refine wpT_i ?_ ?_); (focus (refine ⟨_, _, _, _, _, _, _, _, rfl, rfl, rfl, rfl, rfl, ?_⟩; omega)); intro K hK) | ((with_reducible refine wpT_ncw ?_ ?_ ?_); (focus (first | exact .inl rfl | exact .inr (wanted_yes _ _ _ rfl rfl rfl))); (focus exact ⟨_, _, rfl, rfl, rfl⟩); intro K hK) | ((with_reducible refine wpT_x0 ?_ ?_ ?_); (focus rfl); (focus rfl); intro K hK) | ((with_reducible refine wpT_q1 ?_ ?_ ?_ ?_); (focus exact wanted_yes _ _ _ rfl rfl rfl); (focus rfl); (focus rfl); intro K hK) | ((with_reducible refine wpT_x1 ?_ ?_ ?_); (focus exact wanted_yes _ _ _ rfl rfl rfl); (focus rfl); intro K hK) | ((with_reducible refine wpT_nil ?_); try dsimp only)
      | fail)
    obtain ⟨d0, d1, d2, d3, d4⟩ := (ho2.out.en.slAt encEnt_len).2.2.getEnt hk
    simp only [Nat.zero_add] at d0 d1 d2 d3 d4
    have df0 := ho2.out.en.frozen (k * 5)
    have df1 := ho2.out.en.frozen (k * 5 + 1)
    have df2 := ho2.out.en.frozen (k * 5 + 2)
    have df3 := ho2.out.en.frozen (k * 5 + 3)
    have df4 := ho2.out.en.frozen (k * 5 + 4)
    have hgA3 := (ho2.out.en.lt gA rfl).2
    go_wp2
    refine wp_region_T (fun _ => True) [] [] [] [0, 1, 2, 3, 4, 5, 6] (by kernel_rfl) (by kernel_rfl) (by kernel_rfl) trivial ?_; simp only [pickL, List.getElem?_cons_succ, List.getElem?_cons_zero]
    go_wp2_with (first
      | (go_at_call 70; refine (figure_some (some ⟨gA, 0, none⟩) n n (some ⟨gB, 0, none⟩) 16 16 (some ⟨gE, 0, none⟩) 4 4 lo w2.heap.size r.2.2.2.1 g.1 w2.drew (show RdN 5 (flatR encEnt) w2.drew lo w2.heap.size (some ⟨gA, 0, none⟩) n n g.1 from Own.rdn (w := w2.drew) encEnt_len ho2.out.en.drew) (Nat.le_refl _) i hfj).mono ?_; rintro e w3 ⟨rfl, hb3⟩; have hb23 : Below w2.heap.size w2 w3 := Below.appR (Below.drew (Below.refl _ _)) hb3; have hbx3 := hbx2.below hb23 hlx2; have hbr3 := hbr2.below hb23 hlr2; have ho3 := hide (ho2.out.below hb23); have hz3 := hb23.size; have hB3 : Below lo w w3 := hB2.trans (hb23.mono (by omega)); clear xx0 xx1 xx2 xf0 xf1 xf2 rr0 rr1 rr2 rr3 rr4; obtain ⟨xx0, xx1, xx2, xf0, xf1, xf2⟩ := hbx3.cells; obtain ⟨rr0, rr1, rr2, rr3, rr4, -⟩ := hbr3.cells; have hlx3 := hbx3.lt; have hlr3 := hbr3.lt; clear d0 d1 d2 d3 d4 df0 df1 df2 df3 df4; obtain ⟨d0, d1, d2, d3, d4⟩ := (ho3.out.en.slAt encEnt_len).2.2.getEnt hk; simp only [Nat.zero_add] at d0 d1 d2 d3 d4; have df0 := ho3.out.en.frozen (k * 5); have df1 := ho3.out.en.frozen (k * 5 + 1); have df2 := ho3.out.en.frozen (k * 5 + 2); have df3 := ho3.out.en.frozen (k * 5 + 3); have df4 := ho3.out.en.frozen (k * 5 + 4); have hgA4 := (ho3.out.en.lt gA rfl).2)
      | ((with_reducible refine wpT_noL ?_ ?_); (focus (first | exact wanted_no _ _ _ rfl rfl rfl | exact wanted_un _ _ _ rfl rfl rfl)); simp only [setO, List.set_cons_succ, List.set_cons_zero]) | ((with_reducible refine wpT_q0 ?_ ?_ ?_ ?_); (focus rfl); (focus rfl); (focus rfl); intro K hK) | ((with_reducible refine wpT_i ?_ ?_); (focus (refine ⟨_, _, _, _, _, _, _, _, rfl, rfl, rfl, rfl, rfl, ?_⟩; omega)); intro K hK) | ((with_reducible refine wpT_ncw ?_ ?_ ?_); (focus (first | exact .inl rfl | exact .inr (wanted_yes _ _ _ rfl rfl rfl))); (focus exact ⟨_, _, rfl, rfl, rfl⟩); intro K hK) | ((with_reducible refine wpT_x0 ?_ ?_ ?_); (focus rfl); (focus rfl); intro K hK) | ((with_reducible refine wpT_q1 ?_ ?_ ?_ ?_); (focus exact wanted_yes _ _ _ rfl rfl rfl); (focus rfl); (focus rfl); intro K hK) | ((with_reducible refine wpT_x1 ?_ ?_ ?_); (focus exact wanted_yes _ _ _ rfl rfl rfl); (focus rfl); intro K hK) | ((with_reducible refine wpT_nil ?_); try dsimp only)
      | fail)
    obtain ⟨i0, i1, i2, i3, i4⟩ := (ho3.out.en.slAt encEnt_len).2.2.getEnt hi
    simp only [Nat.zero_add] at i0 i1 i2 i3 i4
    have if0 := ho3.out.en.frozen (i * 5)
    have if1 := ho3.out.en.frozen (i * 5 + 1)
    have if2 := ho3.out.en.frozen (i * 5 + 2)
    have if3 := ho3.out.en.frozen (i * 5 + 3)
    have if4 := ho3.out.en.frozen (i * 5 + 4)
    refine wp_region_T (fun _ => True) [] [] [] [0, 1, 2, 3, 4, 5, 6, 7, 8, 9, 10, 11, 12, 13, 14, 15, 16, 17, 18, 19, 20] (by kernel_rfl) (by kernel_rfl) (by kernel_rfl) trivial ?_; simp only [pickL, List.getElem?_cons_succ, List.getElem?_cons_zero]
    go_wp2_with (first
      | (go_at_call 73; refine (nearI_c g.1[k] g.1[i] _ ⟨hek.2.1, hek.2.2.1⟩ ⟨hei.2.1, hei.2.2.1⟩).mono ?_; rintro e w4 ⟨rfl, hb4⟩; simp only [hnq]; have hb34 : Below w3.heap.size w3 w4 := Below.appR (Below.drew (Below.refl _ _)) hb4; have hbx4 := hbx3.below hb34 hlx3; have hbr4 := hbr3.below hb34 hlr3; have ho4 := hide (ho3.out.below hb34); have hz4 := hb34.size; have hB4 : Below lo w w4 := hB3.trans (hb34.mono (by omega)); clear xx0 xx1 xx2 xf0 xf1 xf2 rr0 rr1 rr2 rr3 rr4; obtain ⟨xx0, xx1, xx2, xf0, xf1, xf2⟩ := hbx4.cells; obtain ⟨rr0, rr1, rr2, rr3, rr4, -⟩ := hbr4.cells; have hlx4 := hbx4.lt; have hlr4 := hbr4.lt; clear d0 d1 d2 d3 d4 df0 df1 df2 df3 df4; obtain ⟨d0, d1, d2, d3, d4⟩ := (ho4.out.en.slAt encEnt_len).2.2.getEnt hk; simp only [Nat.zero_add] at d0 d1 d2 d3 d4; have df0 := ho4.out.en.frozen (k * 5); have df1 := ho4.out.en.frozen (k * 5 + 1); have df2 := ho4.out.en.frozen (k * 5 + 2); have df3 := ho4.out.en.frozen (k * 5 + 3); have df4 := ho4.out.en.frozen (k * 5 + 4); clear i0 i1 i2 i3 i4 if0 if1 if2 if3 if4; obtain ⟨i0, i1, i2, i3, i4⟩ := (ho4.out.en.slAt encEnt_len).2.2.getEnt hi; simp only [Nat.zero_add] at i0 i1 i2 i3 i4; have if0 := ho4.out.en.frozen (i * 5); have if1 := ho4.out.en.frozen (i * 5 + 1); have if2 := ho4.out.en.frozen (i * 5 + 2); have if3 := ho4.out.en.frozen (i * 5 + 3); have if4 := ho4.out.en.frozen (i * 5 + 4); have hgA5 := (ho4.out.en.lt gA rfl).2)
      | ((with_reducible refine wpT_noL ?_ ?_); (focus (first | exact wanted_no _ _ _ rfl rfl rfl | exact wanted_un _ _ _ rfl rfl rfl)); simp only [setO, List.set_cons_succ, List.set_cons_zero]) | ((with_reducible refine wpT_q0 ?_ ?_ ?_ ?_); (focus rfl); (focus rfl); (focus rfl); intro K hK) | ((with_reducible refine wpT_i ?_ ?_); (focus (refine ⟨_, _, _, _, _, _, _, _, rfl, rfl, rfl, rfl, rfl, ?_⟩; omega)); intro K hK) | ((with_reducible refine wpT_ncw ?_ ?_ ?_); (focus (first | exact .inl rfl | exact .inr (wanted_yes _ _ _ rfl rfl rfl))); (focus exact ⟨_, _, rfl, rfl, rfl⟩); intro K hK) | ((with_reducible refine wpT_x0 ?_ ?_ ?_); (focus rfl); (focus rfl); intro K hK) | ((with_reducible refine wpT_q1 ?_ ?_ ?_ ?_); (focus exact wanted_yes _ _ _ rfl rfl rfl); (focus rfl); (focus rfl); intro K hK) | ((with_reducible refine wpT_x1 ?_ ?_ ?_); (focus exact wanted_yes _ _ _ rfl rfl rfl); (focus rfl); intro K hK) | ((with_reducible refine wpT_nil ?_); try dsimp only)
      | fail)
    have ho5 := hide (ho4.out.putE hi (hitE g.1[i]) 3 (by omega) (.int .i64 (g.1[i].2.2.2.1 - 1)) rfl)
    have hbx5 := hbx4.keep (w' := w4.setCell ⟨gA, i * 5 + 3, none⟩ (.int .i64 (g.1[i].2.2.2.1 - 1))) (ne_set _ (Ne.symm hAx))
    have hbr5 := hbr4.keep (w' := w4.setCell ⟨gA, i * 5 + 3, none⟩ (.int .i64 (g.1[i].2.2.2.1 - 1))) (ne_set _ hAw1)
    have hB5 := hB4.setCell (p := ⟨gA, i * 5 + 3, none⟩) hgA1 (.int .i64 (g.1[i].2.2.2.1 - 1))
    have hz5 := hide (show (w4.setCell ⟨gA, i * 5 + 3, none⟩ (.int .i64 (g.1[i].2.2.2.1 - 1))).heap.size = w4.heap.size by simp)
    have hgA5 := (ho5.out.en.lt gA rfl).2
    have hzl5 : w.heap.size < (w4.setCell ⟨gA, i * 5 + 3, none⟩ (.int .i64 (g.1[i].2.2.2.1 - 1))).heap.size := by rw [hz5.out]; exact hlr4
    clear xx0 xx1 xx2 xf0 xf1 xf2 rr0 rr1 rr2 rr3 rr4 d0 d1 d2 d3 d4 df0 df1 df2 df3 df4 i0 i1 i2 i3 i4 if0 if1 if2 if3 if4
    generalize w4.setCell ⟨gA, i * 5 + 3, none⟩ (.int .i64 (g.1[i].2.2.2.1 - 1)) = w5 at *
    obtain ⟨xx0, xx1, xx2, xf0, xf1, xf2⟩ := hbx5.cells
    obtain ⟨rr0, rr1, rr2, rr3, rr4, -⟩ := hbr5.cells
    have hlx5 := hbx5.lt
    have hlr5 := hbr5.lt
    have hi5 : i < (g.1.set i (hitE g.1[i])).length := by simpa using hi
    obtain ⟨i0, i1, i2, i3, i4⟩ := (ho5.out.en.slAt encEnt_len).2.2.getEnt hi5
    simp only [Nat.zero_add, List.getElem_set_self, hitE] at i0 i1 i2 i3 i4
    have hst : Stays gA w5.heap[gA]? w5 := ⟨rfl⟩
    refine wp_region_T (Stays _ _) [82] [] [218, 220] [0, 1, 2, 3, 4, 5, 9, 10, 11, 12, 6, 7, 8, 13, 14, 15] (by kernel_rfl) (by kernel_rfl) (by kernel_rfl) (Stays.drew hst) ?_; simp only [pickL, List.getElem?_cons_succ, List.getElem?_cons_zero]
    go_wp2_with (first
      | (go_at_call 72; refine (floor0_c (some ⟨gA, 0, none⟩) n n gB 16 (some ⟨gE, 0, none⟩) 4 4 (hitE g.1[i]) w5.drew ⟨hei.2.1, hei.2.2.1⟩ sq hsqe.out).mono ?_; rintro e w6 ⟨rfl, hb6⟩; have hb56 : Below w5.heap.size w5 w6 := Below.appR (Below.drew (Below.refl _ _)) hb6; have hbx6 := hbx5.below hb56 hlx5; have hbr6 := hbr5.below hb56 hlr5; have ho6 := hide (ho5.out.below hb56); have hz6 := hb56.size; have hB6 : Below lo w w6 := hB5.trans (hb56.mono (by omega)); clear xx0 xx1 xx2 xf0 xf1 xf2 rr0 rr1 rr2 rr3 rr4; obtain ⟨xx0, xx1, xx2, xf0, xf1, xf2⟩ := hbx6.cells; obtain ⟨rr0, rr1, rr2, rr3, rr4, -⟩ := hbr6.cells; have hlx6 := hbx6.lt; have hlr6 := hbr6.lt; have hst6 : Stays gA w5.heap[gA]? w6 := ⟨hb56.block gA hgA5⟩; have hq0 := (ho6.out.fl.slAt encI_len).2.2.i64 hsl; (simp only [Nat.zero_add] at hq0); have hqf := ho6.out.fl.frozen sq; have hgB3 := (ho6.out.fl.lt gB rfl).2)
      | ((with_reducible refine Stays.and_ ?_ ?_); (focus (repeat (first | (with_reducible assumption) | (with_reducible refine Stays.drew ?_) | ((with_reducible refine Stays.cell ?_ ?_); rotate_left; (focus (first | (with_reducible assumption) | (simp; done) | (simp; omega))))))); intro hS) | ((with_reducible refine wpT_noL ?_ ?_); (focus (first | exact wanted_no _ _ _ rfl rfl rfl | exact wanted_un _ _ _ rfl rfl rfl)); simp only [setO, List.set_cons_succ, List.set_cons_zero]) | ((with_reducible refine wpT_q0 ?_ ?_ ?_ ?_); (focus rfl); (focus rfl); (focus rfl); intro K hK) | ((with_reducible refine wpT_i ?_ ?_); (focus (refine ⟨_, _, _, _, _, _, _, _, rfl, rfl, rfl, rfl, rfl, ?_⟩; omega)); intro K hK) | ((with_reducible refine wpT_ncw ?_ ?_ ?_); (focus (first | exact .inl rfl | exact .inr (wanted_yes _ _ _ rfl rfl rfl))); (focus exact ⟨_, _, rfl, rfl, rfl⟩); intro K hK) | ((with_reducible apply wpT_k); (focus rfl); (focus rfl); (focus rfl); (focus rfl); (focus (first | assumption | exact Stays.drew (by assumption))); (focus rfl); (focus go_simp); intro K hK) | ((with_reducible refine wpT_xs0 ?_ ?_ ?_); (focus rfl); (focus rfl); intro K hK) | ((with_reducible refine wpT_q1 ?_ ?_ ?_ ?_); (focus exact wanted_yes _ _ _ rfl rfl rfl); (focus rfl); (focus rfl); intro K hK) | ((with_reducible refine wpT_xs1 ?_ ?_ ?_); (focus exact wanted_yes _ _ _ rfl rfl rfl); (focus rfl); intro K hK) | ((with_reducible refine wpT_nil ?_); try dsimp only)
      | fail)
    have ho7 := hide (ho6.out.putF hsl (g.2.1[sq] + g.1[i].2.2.2.2))
    have hbx7 := hbx6.keep (w' := w6.setCell ⟨gB, sq, none⟩ (.int .i64 (g.2.1[sq] + g.1[i].2.2.2.2))) (ne_set _ (Ne.symm hnB))
    have hB7 := hB6.setCell (p := ⟨gB, sq, none⟩) (ho6.out.fl.lt gB rfl).1 (.int .i64 (g.2.1[sq] + g.1[i].2.2.2.2))
    have hz7 : (w6.setCell ⟨gB, sq, none⟩ (.int .i64 (g.2.1[sq] + g.1[i].2.2.2.2))).heap.size = w6.heap.size := by simp
    have hz7h := hide hz7
    have hbl7 : bx < (w6.setCell ⟨gB, sq, none⟩ (.int .i64 (g.2.1[sq] + g.1[i].2.2.2.2))).heap.size := by rw [hz7]; exact hlx6
    have hlo7 : lo ≤ (w6.setCell ⟨gB, sq, none⟩ (.int .i64 (g.2.1[sq] + g.1[i].2.2.2.2))).heap.size := by omega
    clear xx0 xx1 xx2 xf0 xf1 xf2 rr0 rr1 rr2 rr3 rr4 hq0 hqf hz7
    generalize w6.setCell ⟨gB, sq, none⟩ (.int .i64 (g.2.1[sq] + g.1[i].2.2.2.2)) = w7 at *
    have hin5 : i < n := by have := hn'.out; omega
    refine (Delete_c gA n lo i (g.1.set i (hitE g.1[i])) w7 ho7.out.en hin5 hn4).mono ?_
    rintro e w8 ⟨rfl, ho8, hO8⟩
    rw [erase_set] at ho8
    have hbx8 : Bx3 w8 bx (.slice (some ⟨gA, 0, none⟩) n n) (.slice (some ⟨gB, 0, none⟩) 16 16) (.slice (some ⟨gE, 0, none⟩) 4 4) 35 := (hO8.block bx hbl7 (fun e => hAx (by injection e))).trans hbx7
    have hB8 : Below lo w w8 := hB7.trans (hO8.toBelow hlo7 (fun q hq => by injection hq with hq; omega))
    have hz8 := hO8.size
    have hgB7 := (ho7.out.fl.lt gB rfl).2
    have hgE7 := (ho7.out.la.lt gE rfl).2
    have hfl8 := hide (ho7.out.fl.keep (fun b hb => hO8.block b (by simp [Value.ownBlock] at hb; omega) (by simp [Value.ownBlock] at hb; intro e; injection e with e; omega)))
    have hla8 := hide (ho7.out.la.keep (fun b hb => hO8.block b (by simp [Value.ownBlock] at hb; omega) (by simp [Value.ownBlock] at hb; intro e; injection e with e; omega)))
    have hl8 := hide ho8.lenEq
    have ho8' := hide (ho8.slAt encEnt_len).2.2
    obtain ⟨xx0, xx1, xx2, xf0, xf1, xf2⟩ := hbx8.cells
    go_wp2_with fail
    refine (cloneEnt_c (some ⟨gA, 0, none⟩) (n - 1) n lo w8.heap.size (g.1.eraseIdx i) w8 hl8.out (by omega) ho8'.out (Nat.le_refl _)).mono ?_
    rintro e w9 ⟨A9, rfl, ho9, hb9⟩
    have hbx9 := hbx8.below hb9 (by omega)
    have hfl9 := hide (hfl8.out.below hb9 (Nat.le_refl _))
    have hla9 := hide (hla8.out.below hb9 (Nat.le_refl _))
    have hB9 : Below lo w w9 := hB8.trans (hb9.mono (by omega))
    have hA9 := hide (fun q hq => (ho9.lt q hq).1)
    have ho9' := hide ho9
    clear xx0 xx1 xx2 xf0 xf1 xf2 ho9
    obtain ⟨xx0, xx1, xx2, xf0, xf1, xf2⟩ := hbx9.cells
    have hlx9 := hbx9.lt
    go_wp2
    go_ret
    rw [hh.out]
    have hP : ActPost bx lo gB gE w ((g.1.eraseIdx i, g.2.1.set sq (g.2.1[sq] + g.1[i].2.2.2.2), g.2.2), 0) (.returned (.int .i64 0)) (w9.setCell ⟨bx, 0, none⟩ (.slice A9 (n - 1) (n - 1))) :=
      ⟨A9, n - 1, rfl, hbx9.set0 _, ⟨(ho9'.out.mono (by omega)).keep (fun b hb => ne_set _ (by have := hA9.out b hb; omega)), hfl9.out.keep (fun b hb => ne_set _ (by simp [Value.ownBlock] at hb; omega)), hla9.out.keep (fun b hb => ne_set _ (by simp [Value.ownBlock] at hb; omega)),
        fun b hb h2 => by have := hA9.out b hb; simp [Value.ownBlock] at h2; omega, fun b hb h2 => by have := hA9.out b hb; simp [Value.ownBlock] at h2; omega, fun b hb h2 => by simp [Value.ownBlock] at hb h2; omega⟩, fun b hb => by have := hA9.out b hb; omega, hB9.setCell (p := ⟨bx, 0, none⟩) hlo _⟩
    (repeat (first | exact hP | refine ActPost.dr ?_))
end Go.Proofs.YtajmfonepnkofaaDoor
