/-
  What 'IP' rests on, part 9 of 11 (texts of this seat put together: HU HV HX).
  Conditions: none.
-/
import Derived.Test.YtajmfonepnkofaaDoorZ8
namespace Go.Proofs.YtajmfonepnkofaaDoor
open Go.RowKit Rg
set_option linter.unusedVariables false
set_option linter.unusedSimpArgs false

theorem behG_act {g : GameT} {r : AskT} {k : Nat} (hfi : figI g.1 r.1 = some k) (hop : r.2.2.1 ≠ 1) : behG g r = actG g k r := by unfold behG; rw [hfi]; dsimp only; rw [if_neg hop]
theorem actG_far_none {g : GameT} {r : AskT} (k : Nat) (h2 : r.2.2.1 ≠ 2) (h3 : r.2.2.1 ≠ 3) (hf : figI g.1 r.2.2.2.1 = none) : actG g k r = (g, 8) := by
  unfold actG; dsimp only; rw [if_neg h2, if_neg h3, hf]
theorem actG_some {g : GameT} {r : AskT} (k : Nat) (h2 : r.2.2.1 ≠ 2) (h3 : r.2.2.1 ≠ 3) {i : Nat} (hf : figI g.1 r.2.2.2.1 = some i) : actG g k r = other g k i r := by
  unfold actG; dsimp only; rw [if_neg h2, if_neg h3, hf]
theorem other_far {g : GameT} {r : AskT} {k i : Nat} (hk : k < g.1.length) (hi : i < g.1.length) (h : i = k ∨ ¬ nearE g.1[k] g.1[i]) : other g k i r = (g, 8) := by
  unfold other; dsimp only; rw [getD_at hk, getD_at hi, if_pos h]
theorem other_give {g : GameT} {r : AskT} {k i : Nat} (hk : k < g.1.length) (hi : i < g.1.length) (hne : i ≠ k) (hn : nearE g.1[k] g.1[i]) (h5 : r.2.2.1 = 5) : other g k i r = if g.1[k].2.2.2.2 < r.2.2.2.2 then (g, 7) else (((g.1.set i (entG g.1[i] r.2.2.2.2)).set k (entG g.1[k] (- r.2.2.2.2)), g.2.1, g.2.2), 0) := by
  unfold other; dsimp only; rw [getD_at hk, getD_at hi, if_neg (by rintro (h | h); exact hne h; exact h hn), if_pos h5]
theorem other_hit {g : GameT} {r : AskT} {k i : Nat} (hk : k < g.1.length) (hi : i < g.1.length) (hne : i ≠ k) (hn : nearE g.1[k] g.1[i]) (h5 : r.2.2.1 ≠ 5) : other g k i r = if g.1[i].2.2.2.1 - 1 ≤ 0 then ((g.1.eraseIdx i, g.2.1.set (sqr g.1[i]) (g.2.1.getD (sqr g.1[i]) 0 + g.1[i].2.2.2.2), g.2.2), 0) else ((g.1.set i (hitE g.1[i]), g.2.1, g.2.2), 0) := by
  unfold other; dsimp only; rw [getD_at hk, getD_at hi, if_neg (by rintro (h | h); exact hne h; exact h hn), if_neg h5]

set_option maxRecDepth 100000 in
set_option maxHeartbeats 2000000 in
theorem actTake (bx lo gB gE : Nat) (A : Option Addr) (n : Nat) (g : GameT) (r : AskT) (w : World) (hbx : Bx3 w bx (.slice A n n) (.slice (some ⟨gB, 0, none⟩) 16 16) (.slice (some ⟨gE, 0, none⟩) 4 4) 35) (ho : GmO w lo A n n (some ⟨gB, 0, none⟩) 16 16 (some ⟨gE, 0, none⟩) 4 4 g)
    (hlo : lo ≤ bx) (hnA : ∀ k, (Value.slice A n n).ownBlock = some k → k ≠ bx) (hnB : gB ≠ bx) (hnE : gE ≠ bx) (hok : okG' g) (hr : okA r) (k : Nat) (hfi : figI g.1 r.1 = some k) (hop : r.2.2.1 = 3) :
    Calls Tryd.prog 44 #[.pointer (some ⟨bx, 0, none⟩), .agg #[.int .i64 r.1, .int .i64 r.2.1, .int .i64 r.2.2.1, .int .i64 r.2.2.2.1, .int .i64 r.2.2.2.2]] w fun e w' => ActPost bx lo gB gE w (behG g r) e w' := by
  have hA1 := (Below.refl w.heap.size w).alloc (Nat.le_refl _) (.cells #[.int .i64 r.1, .int .i64 r.2.1, .int .i64 r.2.2.1, .int .i64 r.2.2.2.1, .int .i64 r.2.2.2.2] 37)
  have hbr1 := Bx5.made w r 37
  have hbx1 := hbx.below hA1 hbx.lt
  have ho1 := hide (ho.below hA1)
  have hz1 : w.heap.size + 1 ≤ (w.alloc (.cells #[.int .i64 r.1, .int .i64 r.2.1, .int .i64 r.2.2.1, .int .i64 r.2.2.2.1, .int .i64 r.2.2.2.2] 37)).heap.size := by simp only [World.size_alloc]; omega
  have hbl := hbx.lt
  obtain ⟨xx0, xx1, xx2, xf0, xf1, xf2⟩ := hbx1.cells
  obtain ⟨rr0, rr1, rr2, rr3, rr4, -⟩ := hbr1.cells
  have hlx := hbx1.lt
  have hlr := hbr1.lt
  have hn' := hide ho.en.lenEq
  have hn4 : n ≤ 4 := by
    have h3 := inc_len hok.inc (fun e he => (hok.ent e he).1)
    have := hn'.out
    omega
  have hok' := hide hok
  have hrH := hide hr
  have hnA' := hide hnA
  have hoH := hide ho
  clear hok hr ho hbx hnA
  have hq1 : (r.2.2.1 == 1) = false := by simp [hop]
  have hq2 : (r.2.2.1 == 2) = false := by simp [hop]
  have hq3 : (r.2.2.1 == 3) = true := by simp [hop]
  have hopp := hide hop
  clear hop
  have hk := figI_lt hfi
  have hkn : k < n := by have := hn'.out; omega
  obtain ⟨gA, rfl, hgA1, hgA2⟩ := ho1.out.en.addrAt (show 0 < n by omega)
  have hAx : gA ≠ bx := hnA'.out gA rfl
  obtain ⟨hAB, hAE, hBE⟩ := ho1.out.sep
  have hAw := (hoH.out.en.lt gA rfl).2
  have hBw := (hoH.out.fl.lt gB rfl).2
  have hAw1 : ¬ w.heap.size = gA := by omega
  have hAw2 : ¬ gA = w.heap.size := by omega
  have hBw1 : ¬ w.heap.size = gB := by omega
  have hBw2 : ¬ gB = w.heap.size := by omega
  have hek := (okG'.full hok'.out).ent _ (List.getElem_mem hk)
  unfold entOk rng at hek
  have hk0 : decide ((k : Int) < 0) = false := by simp <;> omega
  have hsl : sqr g.1[k] < g.2.1.length := by have h16 := hok'.out.n16; unfold sqr; omega
  have hfl := (okG'.full hok'.out).flo _ (List.getElem_mem hsl)
  unfold rng at hfl
  have hgd := hide (getD_at hsl (0 : Int))
  obtain ⟨sq, hsq⟩ : ∃ s, s = sqr g.1[k] := ⟨_, rfl⟩
  have hsqe := hide hsq.symm
  have hsl : sq < g.2.1.length := by rw [hsq]; exact hsl
  have hgd2 := hide (show g.2.1.getD (sqr g.1[k]) 0 = g.2.1[sq] by rw [hsqe.out]; exact getD_at hsl 0)
  have hfl : 0 ≤ g.2.1[sq] ∧ g.2.1[sq] ≤ 20 := (okG'.full hok'.out).flo _ (List.getElem_mem hsl)
  clear hsq hgd
  cases e1 : (g.2.1[sq] == 0)
  · have hh := hide (show behG g r = ((g.1.set k (g.1[k].1, g.1[k].2.1, g.1[k].2.2.1, g.1[k].2.2.2.1, g.1[k].2.2.2.2 + 1), g.2.1.set sq (g.2.1[sq] - 1), g.2.2), 0) by
      have h0 : ¬ g.2.1[sq] = 0 := by simpa using e1
      rw [behG_act hfi (by have := hopp.out; omega)]
      unfold actG; dsimp only
      rw [if_neg (by have := hopp.out; omega), if_pos hopp.out, getD_at hk, hgd2.out, if_neg h0, hsqe.out]
      rfl)
    go_enter Tryd.func44, Tryd.ntmps44
    go_wp2
    generalize w.alloc (.cells #[.int .i64 r.1, .int .i64 r.2.1, .int .i64 r.2.2.1, .int .i64 r.2.2.2.1, .int .i64 r.2.2.2.2] 37) = w1 at *
    refine wp_region_T (fun _ => True) [] [] [] [0, 1, 2, 3, 4, 5, 6] (by kernel_rfl) (by kernel_rfl) (by kernel_rfl) trivial ?_; simp only [pickL, List.getElem?_cons_succ, List.getElem?_cons_zero]
    go_wp2_with (first
      | (go_at_call 70; refine (figure_some _ n n (some ⟨gB, 0, none⟩) 16 16 (some ⟨gE, 0, none⟩) 4 4 lo w1.heap.size r.1 g.1 w1.drew (show RdN 5 (flatR encEnt) w1.drew lo w1.heap.size _ n n g.1 from Own.rdn (w := w1.drew) encEnt_len ho1.out.en.drew) (Nat.le_refl _) k hfi).mono ?_; rintro e w2 ⟨rfl, hb2⟩; have hb12 : Below w1.heap.size w1 w2 := Below.appR (Below.drew (Below.refl _ _)) hb2; have hbx2 := hbx1.below hb12 hlx; have hbr2 := hbr1.below hb12 hlr; have ho2 := hide (ho1.out.below hb12); have hz2 := hb12.size; have hB2 : Below lo w w2 := (hA1.mono (by omega)).trans (hb12.mono (by omega)); clear xx0 xx1 xx2 xf0 xf1 xf2 rr0 rr1 rr2 rr3 rr4; obtain ⟨xx0, xx1, xx2, xf0, xf1, xf2⟩ := hbx2.cells; obtain ⟨rr0, rr1, rr2, rr3, rr4, -⟩ := hbr2.cells; have hlx2 := hbx2.lt; have hlr2 := hbr2.lt)
      | ((with_reducible refine wpT_noL ?_ ?_); (focus (first | exact wanted_no _ _ _ rfl rfl rfl | exact wanted_un _ _ _ rfl rfl rfl)); simp only [setO, List.set_cons_succ, List.set_cons_zero]) | ((with_reducible refine wpT_q0 ?_ ?_ ?_ ?_); (focus rfl); (focus rfl); (focus rfl); intro K hK) | ((with_reducible refine wpT_i ?_ ?_); (focus (refine ⟨_, _, _, _, _, _, _, _, rfl, rfl, rfl, rfl, rfl, ?_⟩; omega)); intro K hK) | ((with_reducible refine wpT_ncw ?_ ?_ ?_); (focus (first | exact .inl rfl | exact .inr (wanted_yes _ _ _ rfl rfl rfl))); (focus exact ⟨_, _, rfl, rfl, rfl⟩); intro K hK) | ((with_reducible refine wpT_x0 ?_ ?_ ?_); (focus rfl); (focus rfl); intro K hK) | ((with_reducible refine wpT_q1 ?_ ?_ ?_ ?_); (focus exact wanted_yes _ _ _ rfl rfl rfl); (focus rfl); (focus rfl); intro K hK) | ((with_reducible refine wpT_x1 ?_ ?_ ?_); (focus exact wanted_yes _ _ _ rfl rfl rfl); (focus rfl); intro K hK) | ((with_reducible refine wpT_nil ?_); try dsimp only)
      | fail)
    obtain ⟨d0, d1, d2, d3, d4⟩ := (ho2.out.en.slAt encEnt_len).2.2.getEnt hk
    simp only [Nat.zero_add] at d0 d1 d2 d3 d4
    have df0 := ho2.out.en.frozen (k * 5)
    have df1 := ho2.out.en.frozen (k * 5 + 1)
    have df2 := ho2.out.en.frozen (k * 5 + 2)
    have df3 := ho2.out.en.frozen (k * 5 + 3)
    have df4 := ho2.out.en.frozen (k * 5 + 4)
    have hgA3 := (ho2.out.en.lt gA rfl).2
    go_wp2
    refine wp_region_T (fun _ => True) [] [] [] [0, 1, 2, 3, 4, 5, 6, 7] (by kernel_rfl) (by kernel_rfl) (by kernel_rfl) trivial ?_; simp only [pickL, List.getElem?_cons_succ, List.getElem?_cons_zero]
    go_wp2_with (first
      | (go_at_call 72; refine (floor0_c (some ⟨gA, 0, none⟩) n n gB 16 (some ⟨gE, 0, none⟩) 4 4 g.1[k] _ ⟨hek.2.1, hek.2.2.1⟩ sq hsqe.out).mono ?_; rintro e w3 ⟨rfl, hb3⟩; have hb23 : Below w2.heap.size w2 w3 := Below.appR (Below.drew (Below.refl _ _)) hb3; have hbx3 := hbx2.below hb23 hlx2; have hbr3 := hbr2.below hb23 hlr2; have ho3 := hide (ho2.out.below hb23); have hz3 := hb23.size; have hB3 : Below lo w w3 := hB2.trans (hb23.mono (by omega)); clear xx0 xx1 xx2 xf0 xf1 xf2 rr0 rr1 rr2 rr3 rr4; obtain ⟨xx0, xx1, xx2, xf0, xf1, xf2⟩ := hbx3.cells; obtain ⟨rr0, rr1, rr2, rr3, rr4, -⟩ := hbr3.cells; have hlx3 := hbx3.lt; have hlr3 := hbr3.lt; clear d0 d1 d2 d3 d4 df0 df1 df2 df3 df4; obtain ⟨d0, d1, d2, d3, d4⟩ := (ho3.out.en.slAt encEnt_len).2.2.getEnt hk; simp only [Nat.zero_add] at d0 d1 d2 d3 d4; have df0 := ho3.out.en.frozen (k * 5); have df1 := ho3.out.en.frozen (k * 5 + 1); have df2 := ho3.out.en.frozen (k * 5 + 2); have df3 := ho3.out.en.frozen (k * 5 + 3); have df4 := ho3.out.en.frozen (k * 5 + 4); have hq0 := (ho3.out.fl.slAt encI_len).2.2.i64 hsl; (simp only [Nat.zero_add] at hq0); have hqf := ho3.out.fl.frozen sq; have hgB3 := (ho3.out.fl.lt gB rfl).2; have hgA4 := (ho3.out.en.lt gA rfl).2)
      | ((with_reducible refine wpT_noL ?_ ?_); (focus (first | exact wanted_no _ _ _ rfl rfl rfl | exact wanted_un _ _ _ rfl rfl rfl)); simp only [setO, List.set_cons_succ, List.set_cons_zero]) | ((with_reducible refine wpT_q0 ?_ ?_ ?_ ?_); (focus rfl); (focus rfl); (focus rfl); intro K hK) | ((with_reducible refine wpT_i ?_ ?_); (focus (refine ⟨_, _, _, _, _, _, _, _, rfl, rfl, rfl, rfl, rfl, ?_⟩; omega)); intro K hK) | ((with_reducible refine wpT_ncw ?_ ?_ ?_); (focus (first | exact .inl rfl | exact .inr (wanted_yes _ _ _ rfl rfl rfl))); (focus exact ⟨_, _, rfl, rfl, rfl⟩); intro K hK) | ((with_reducible refine wpT_x0 ?_ ?_ ?_); (focus rfl); (focus rfl); intro K hK) | ((with_reducible refine wpT_q1 ?_ ?_ ?_ ?_); (focus exact wanted_yes _ _ _ rfl rfl rfl); (focus rfl); (focus rfl); intro K hK) | ((with_reducible refine wpT_x1 ?_ ?_ ?_); (focus exact wanted_yes _ _ _ rfl rfl rfl); (focus rfl); intro K hK) | ((with_reducible refine wpT_nil ?_); try dsimp only)
      | fail)
    go_ret
    rw [hh.out]
    have hp1 := ho3.out.putF hsl (g.2.1[sq] - 1)
    have hp2 := hp1.putE hk (g.1[k].1, g.1[k].2.1, g.1[k].2.2.1, g.1[k].2.2.2.1, g.1[k].2.2.2.2 + 1) 4 (by omega) (.int .i64 (g.1[k].2.2.2.2 + 1)) rfl
    have hb9 := (hbx3.keep (ne_set (i := sq) (.int .i64 (g.2.1[sq] - 1)) (Ne.symm hnB))).keep (ne_set (i := k * 5 + 4) (.int .i64 (g.1[k].2.2.2.2 + 1)) (Ne.symm hAx))
    have hgBl := (ho3.out.fl.lt gB rfl).1
    have hP : ActPost bx lo gB gE w ((g.1.set k (g.1[k].1, g.1[k].2.1, g.1[k].2.2.1, g.1[k].2.2.2.1, g.1[k].2.2.2.2 + 1), g.2.1.set sq (g.2.1[sq] - 1), g.2.2), 0) (.returned (.int .i64 0)) ((w3.setCell ⟨gB, sq, none⟩ (.int .i64 (g.2.1[sq] - 1))).setCell ⟨gA, k * 5 + 4, none⟩ (.int .i64 (g.1[k].2.2.2.2 + 1))) :=
      ⟨some ⟨gA, 0, none⟩, n, rfl, hb9, hp2, hnA'.out, (hB3.setCell (p := ⟨gB, sq, none⟩) hgBl _).setCell (p := ⟨gA, k * 5 + 4, none⟩) hgA1 _⟩
    (repeat (first | exact hP | refine ActPost.dr ?_))
  · have hh := hide (show behG g r = (g, 7) by
      have h0 : g.2.1[sq] = 0 := by simpa using e1
      rw [behG_act hfi (by have := hopp.out; omega)]
      unfold actG; dsimp only
      rw [if_neg (by have := hopp.out; omega), if_pos hopp.out, getD_at hk, hgd2.out, if_pos h0])
    go_enter Tryd.func44, Tryd.ntmps44
    go_wp2
    generalize w.alloc (.cells #[.int .i64 r.1, .int .i64 r.2.1, .int .i64 r.2.2.1, .int .i64 r.2.2.2.1, .int .i64 r.2.2.2.2] 37) = w1 at *
    refine wp_region_T (fun _ => True) [] [] [] [0, 1, 2, 3, 4, 5, 6] (by kernel_rfl) (by kernel_rfl) (by kernel_rfl) trivial ?_; simp only [pickL, List.getElem?_cons_succ, List.getElem?_cons_zero]
    go_wp2_with (first
      | (go_at_call 70; refine (figure_some _ n n (some ⟨gB, 0, none⟩) 16 16 (some ⟨gE, 0, none⟩) 4 4 lo w1.heap.size r.1 g.1 w1.drew (show RdN 5 (flatR encEnt) w1.drew lo w1.heap.size _ n n g.1 from Own.rdn (w := w1.drew) encEnt_len ho1.out.en.drew) (Nat.le_refl _) k hfi).mono ?_; rintro e w2 ⟨rfl, hb2⟩; have hb12 : Below w1.heap.size w1 w2 := Below.appR (Below.drew (Below.refl _ _)) hb2; have hbx2 := hbx1.below hb12 hlx; have hbr2 := hbr1.below hb12 hlr; have ho2 := hide (ho1.out.below hb12); have hz2 := hb12.size; have hB2 : Below lo w w2 := (hA1.mono (by omega)).trans (hb12.mono (by omega)); clear xx0 xx1 xx2 xf0 xf1 xf2 rr0 rr1 rr2 rr3 rr4; obtain ⟨xx0, xx1, xx2, xf0, xf1, xf2⟩ := hbx2.cells; obtain ⟨rr0, rr1, rr2, rr3, rr4, -⟩ := hbr2.cells; have hlx2 := hbx2.lt; have hlr2 := hbr2.lt)
      | ((with_reducible refine wpT_noL ?_ ?_); (focus (first | exact wanted_no _ _ _ rfl rfl rfl | exact wanted_un _ _ _ rfl rfl rfl)); simp only [setO, List.set_cons_succ, List.set_cons_zero]) | ((with_reducible refine wpT_q0 ?_ ?_ ?_ ?_); (focus rfl); (focus rfl); (focus rfl); intro K hK) | ((with_reducible refine wpT_i ?_ ?_); (focus (refine ⟨_, _, _, _, _, _, _, _, rfl, rfl, rfl, rfl, rfl, ?_⟩; omega)); intro K hK) | ((with_reducible refine wpT_ncw ?_ ?_ ?_); (focus (first | exact .inl rfl | exact .inr (wanted_yes _ _ _ rfl rfl rfl))); (focus exact ⟨_, _, rfl, rfl, rfl⟩); intro K hK) | ((with_reducible refine wpT_x0 ?_ ?_ ?_); (focus rfl); (focus rfl); intro K hK) | ((with_reducible refine wpT_q1 ?_ ?_ ?_ ?_); (focus exact wanted_yes _ _ _ rfl rfl rfl); (focus rfl); (focus rfl); intro K hK) | ((with_reducible refine wpT_x1 ?_ ?_ ?_); (focus exact wanted_yes _ _ _ rfl rfl rfl); (focus rfl); intro K hK) | ((with_reducible refine wpT_nil ?_); try dsimp only)
      | fail)
    obtain ⟨d0, d1, d2, d3, d4⟩ := (ho2.out.en.slAt encEnt_len).2.2.getEnt hk
    simp only [Nat.zero_add] at d0 d1 d2 d3 d4
    have df0 := ho2.out.en.frozen (k * 5)
    have df1 := ho2.out.en.frozen (k * 5 + 1)
    have df2 := ho2.out.en.frozen (k * 5 + 2)
    have df3 := ho2.out.en.frozen (k * 5 + 3)
    have df4 := ho2.out.en.frozen (k * 5 + 4)
    have hgA3 := (ho2.out.en.lt gA rfl).2
    go_wp2
    refine wp_region_T (fun _ => True) [] [] [] [0, 1, 2, 3, 4, 5, 6, 7] (by kernel_rfl) (by kernel_rfl) (by kernel_rfl) trivial ?_; simp only [pickL, List.getElem?_cons_succ, List.getElem?_cons_zero]
    go_wp2_with (first
      | (go_at_call 72; refine (floor0_c (some ⟨gA, 0, none⟩) n n gB 16 (some ⟨gE, 0, none⟩) 4 4 g.1[k] _ ⟨hek.2.1, hek.2.2.1⟩ sq hsqe.out).mono ?_; rintro e w3 ⟨rfl, hb3⟩; have hb23 : Below w2.heap.size w2 w3 := Below.appR (Below.drew (Below.refl _ _)) hb3; have hbx3 := hbx2.below hb23 hlx2; have hbr3 := hbr2.below hb23 hlr2; have ho3 := hide (ho2.out.below hb23); have hz3 := hb23.size; have hB3 : Below lo w w3 := hB2.trans (hb23.mono (by omega)); clear xx0 xx1 xx2 xf0 xf1 xf2 rr0 rr1 rr2 rr3 rr4; obtain ⟨xx0, xx1, xx2, xf0, xf1, xf2⟩ := hbx3.cells; obtain ⟨rr0, rr1, rr2, rr3, rr4, -⟩ := hbr3.cells; have hlx3 := hbx3.lt; have hlr3 := hbr3.lt; clear d0 d1 d2 d3 d4 df0 df1 df2 df3 df4; obtain ⟨d0, d1, d2, d3, d4⟩ := (ho3.out.en.slAt encEnt_len).2.2.getEnt hk; simp only [Nat.zero_add] at d0 d1 d2 d3 d4; have df0 := ho3.out.en.frozen (k * 5); have df1 := ho3.out.en.frozen (k * 5 + 1); have df2 := ho3.out.en.frozen (k * 5 + 2); have df3 := ho3.out.en.frozen (k * 5 + 3); have df4 := ho3.out.en.frozen (k * 5 + 4); have hq0 := (ho3.out.fl.slAt encI_len).2.2.i64 hsl; (simp only [Nat.zero_add] at hq0); have hqf := ho3.out.fl.frozen sq; have hgB3 := (ho3.out.fl.lt gB rfl).2; have hgA4 := (ho3.out.en.lt gA rfl).2)
      | ((with_reducible refine wpT_noL ?_ ?_); (focus (first | exact wanted_no _ _ _ rfl rfl rfl | exact wanted_un _ _ _ rfl rfl rfl)); simp only [setO, List.set_cons_succ, List.set_cons_zero]) | ((with_reducible refine wpT_q0 ?_ ?_ ?_ ?_); (focus rfl); (focus rfl); (focus rfl); intro K hK) | ((with_reducible refine wpT_i ?_ ?_); (focus (refine ⟨_, _, _, _, _, _, _, _, rfl, rfl, rfl, rfl, rfl, ?_⟩; omega)); intro K hK) | ((with_reducible refine wpT_ncw ?_ ?_ ?_); (focus (first | exact .inl rfl | exact .inr (wanted_yes _ _ _ rfl rfl rfl))); (focus exact ⟨_, _, rfl, rfl, rfl⟩); intro K hK) | ((with_reducible refine wpT_x0 ?_ ?_ ?_); (focus rfl); (focus rfl); intro K hK) | ((with_reducible refine wpT_q1 ?_ ?_ ?_ ?_); (focus exact wanted_yes _ _ _ rfl rfl rfl); (focus rfl); (focus rfl); intro K hK) | ((with_reducible refine wpT_x1 ?_ ?_ ?_); (focus exact wanted_yes _ _ _ rfl rfl rfl); (focus rfl); intro K hK) | ((with_reducible refine wpT_nil ?_); try dsimp only)
      | fail)
    go_ret
    rw [hh.out]
    have hP := ActPost.same 7 hbx3 ho3.out hnA'.out hB3
    (repeat (first | exact hP | refine ActPost.dr ?_))

set_option maxRecDepth 100000 in
set_option maxHeartbeats 2000000 in
theorem actFarNone (bx lo gB gE : Nat) (A : Option Addr) (n : Nat) (g : GameT) (r : AskT) (w : World) (hbx : Bx3 w bx (.slice A n n) (.slice (some ⟨gB, 0, none⟩) 16 16) (.slice (some ⟨gE, 0, none⟩) 4 4) 35) (ho : GmO w lo A n n (some ⟨gB, 0, none⟩) 16 16 (some ⟨gE, 0, none⟩) 4 4 g)
    (hlo : lo ≤ bx) (hnA : ∀ k, (Value.slice A n n).ownBlock = some k → k ≠ bx) (hnB : gB ≠ bx) (hnE : gE ≠ bx) (hok : okG' g) (hr : okA r) (k : Nat) (hfi : figI g.1 r.1 = some k) (hop : r.2.2.1 = 4 ∨ r.2.2.1 = 5) (hfj : figI g.1 r.2.2.2.1 = none) :
    Calls Tryd.prog 44 #[.pointer (some ⟨bx, 0, none⟩), .agg #[.int .i64 r.1, .int .i64 r.2.1, .int .i64 r.2.2.1, .int .i64 r.2.2.2.1, .int .i64 r.2.2.2.2]] w fun e w' => ActPost bx lo gB gE w (behG g r) e w' := by
  have hA1 := (Below.refl w.heap.size w).alloc (Nat.le_refl _) (.cells #[.int .i64 r.1, .int .i64 r.2.1, .int .i64 r.2.2.1, .int .i64 r.2.2.2.1, .int .i64 r.2.2.2.2] 37)
  have hbr1 := Bx5.made w r 37
  have hbx1 := hbx.below hA1 hbx.lt
  have ho1 := hide (ho.below hA1)
  have hz1 : w.heap.size + 1 ≤ (w.alloc (.cells #[.int .i64 r.1, .int .i64 r.2.1, .int .i64 r.2.2.1, .int .i64 r.2.2.2.1, .int .i64 r.2.2.2.2] 37)).heap.size := by simp only [World.size_alloc]; omega
  have hbl := hbx.lt
  obtain ⟨xx0, xx1, xx2, xf0, xf1, xf2⟩ := hbx1.cells
  obtain ⟨rr0, rr1, rr2, rr3, rr4, -⟩ := hbr1.cells
  have hlx := hbx1.lt
  have hlr := hbr1.lt
  have hn' := hide ho.en.lenEq
  have hn4 : n ≤ 4 := by
    have h3 := inc_len hok.inc (fun e he => (hok.ent e he).1)
    have := hn'.out
    omega
  have hok' := hide hok
  have hrH := hide hr
  have hnA' := hide hnA
  have hoH := hide ho
  clear hok hr ho hbx hnA
  have hq1 : (r.2.2.1 == 1) = false := by simp <;> omega
  have hq2 : (r.2.2.1 == 2) = false := by simp <;> omega
  have hq3 : (r.2.2.1 == 3) = false := by simp <;> omega
  have hbe := hide (behG_act hfi (show r.2.2.1 ≠ 1 by omega))
  have hh := hide (show behG g r = (g, 8) by rw [hbe.out]; exact actG_far_none k (by omega) (by omega) hfj)
  clear hop
  have hk := figI_lt hfi
  have hkn : k < n := by have := hn'.out; omega
  obtain ⟨gA, rfl, hgA1, hgA2⟩ := ho1.out.en.addrAt (show 0 < n by omega)
  have hAx : gA ≠ bx := hnA'.out gA rfl
  obtain ⟨hAB, hAE, hBE⟩ := ho1.out.sep
  have hAw := (hoH.out.en.lt gA rfl).2
  have hBw := (hoH.out.fl.lt gB rfl).2
  have hAw1 : ¬ w.heap.size = gA := by omega
  have hAw2 : ¬ gA = w.heap.size := by omega
  have hBw1 : ¬ w.heap.size = gB := by omega
  have hBw2 : ¬ gB = w.heap.size := by omega
  have hek := (okG'.full hok'.out).ent _ (List.getElem_mem hk)
  unfold entOk rng at hek
  have hk0 : decide ((k : Int) < 0) = false := by simp <;> omega
  go_enter Tryd.func44, Tryd.ntmps44
  go_wp2
  generalize w.alloc (.cells #[.int .i64 r.1, .int .i64 r.2.1, .int .i64 r.2.2.1, .int .i64 r.2.2.2.1, .int .i64 r.2.2.2.2] 37) = w1 at *
  refine wp_region_T (fun _ => True) [] [] [] [0, 1, 2, 3, 4, 5, 6] (by kernel_rfl) (by kernel_rfl) (by kernel_rfl) trivial ?_; simp only [pickL, List.getElem?_cons_succ, List.getElem?_cons_zero]
  go_wp2_with (first
    | (go_at_call 70; refine (figure_some _ n n (some ⟨gB, 0, none⟩) 16 16 (some ⟨gE, 0, none⟩) 4 4 lo w1.heap.size r.1 g.1 w1.drew (show RdN 5 (flatR encEnt) w1.drew lo w1.heap.size _ n n g.1 from Own.rdn (w := w1.drew) encEnt_len ho1.out.en.drew) (Nat.le_refl _) k hfi).mono ?_; rintro e w2 ⟨rfl, hb2⟩; have hb12 : Below w1.heap.size w1 w2 := Below.appR (Below.drew (Below.refl _ _)) hb2; have hbx2 := hbx1.below hb12 hlx; have hbr2 := hbr1.below hb12 hlr; have ho2 := hide (ho1.out.below hb12); have hz2 := hb12.size; have hB2 : Below lo w w2 := (hA1.mono (by omega)).trans (hb12.mono (by omega)); clear xx0 xx1 xx2 xf0 xf1 xf2 rr0 rr1 rr2 rr3 rr4; obtain ⟨xx0, xx1, xx2, xf0, xf1, xf2⟩ := hbx2.cells; obtain ⟨rr0, rr1, rr2, rr3, rr4, -⟩ := hbr2.cells; have hlx2 := hbx2.lt; have hlr2 := hbr2.lt)
    | ((with_reducible refine wpT_noL ?_ ?_); (focus (first | exact wanted_no _ _ _ rfl rfl rfl | exact wanted_un _ _ _ rfl rfl rfl)); simp only [setO, List.set_cons_succ, List.set_cons_zero]) | ((with_reducible refine wpT_q0 ?_ ?_ ?_ ?_); (focus rfl); (focus rfl); (focus rfl); intro K hK) | ((with_reducible refine wpT_i ?_ ?_); (focus (refine ⟨_, _, _, _, _, _, _, _, rfl, rfl, rfl, rfl, rfl, ?_⟩; omega)); intro K hK) | ((with_reducible refine wpT_ncw ?_ ?_ ?_); (focus (first | exact .inl rfl | exact .inr (wanted_yes _ _ _ rfl rfl rfl))); (focus exact ⟨_, _, rfl, rfl, rfl⟩); intro K hK) | ((with_reducible refine wpT_x0 ?_ ?_ ?_); (focus rfl); (focus rfl); intro K hK) | ((with_reducible refine wpT_q1 ?_ ?_ ?_ ?_); (focus exact wanted_yes _ _ _ rfl rfl rfl); (focus rfl); (focus rfl); intro K hK) | ((with_reducible refine wpT_x1 ?_ ?_ ?_); (focus exact wanted_yes _ _ _ rfl rfl rfl); (focus rfl); intro K hK) | ((with_reducible refine wpT_nil ?_); try dsimp only)
    | fail)
  obtain ⟨d0, d1, d2, d3, d4⟩ := (ho2.out.en.slAt encEnt_len).2.2.getEnt hk
  simp only [Nat.zero_add] at d0 d1 d2 d3 d4
  have df0 := ho2.out.en.frozen (k * 5)
  have df1 := ho2.out.en.frozen (k * 5 + 1)
  have df2 := ho2.out.en.frozen (k * 5 + 2)
  have df3 := ho2.out.en.frozen (k * 5 + 3)
  have df4 := ho2.out.en.frozen (k * 5 + 4)
  have hgA3 := (ho2.out.en.lt gA rfl).2
  go_wp2
  refine wp_region_T (fun _ => True) [] [] [] [0, 1, 2, 3, 4, 5, 6] (by kernel_rfl) (by kernel_rfl) (by kernel_rfl) trivial ?_; simp only [pickL, List.getElem?_cons_succ, List.getElem?_cons_zero]
  go_wp2_with (first
    | (go_at_call 70; refine (figure_none (some ⟨gA, 0, none⟩) n n (some ⟨gB, 0, none⟩) 16 16 (some ⟨gE, 0, none⟩) 4 4 lo w2.heap.size r.2.2.2.1 g.1 w2.drew (show RdN 5 (flatR encEnt) w2.drew lo w2.heap.size (some ⟨gA, 0, none⟩) n n g.1 from Own.rdn (w := w2.drew) encEnt_len ho2.out.en.drew) (Nat.le_refl _) hfj).mono ?_; rintro e w3 ⟨rfl, hb3⟩; have hb23 : Below w2.heap.size w2 w3 := Below.appR (Below.drew (Below.refl _ _)) hb3; have hbx3 := hbx2.below hb23 hlx2; have hbr3 := hbr2.below hb23 hlr2; have ho3 := hide (ho2.out.below hb23); have hz3 := hb23.size; have hB3 : Below lo w w3 := hB2.trans (hb23.mono (by omega)); clear xx0 xx1 xx2 xf0 xf1 xf2 rr0 rr1 rr2 rr3 rr4; obtain ⟨xx0, xx1, xx2, xf0, xf1, xf2⟩ := hbx3.cells; obtain ⟨rr0, rr1, rr2, rr3, rr4, -⟩ := hbr3.cells; have hlx3 := hbx3.lt; have hlr3 := hbr3.lt; clear d0 d1 d2 d3 d4 df0 df1 df2 df3 df4; obtain ⟨d0, d1, d2, d3, d4⟩ := (ho3.out.en.slAt encEnt_len).2.2.getEnt hk; simp only [Nat.zero_add] at d0 d1 d2 d3 d4; have df0 := ho3.out.en.frozen (k * 5); have df1 := ho3.out.en.frozen (k * 5 + 1); have df2 := ho3.out.en.frozen (k * 5 + 2); have df3 := ho3.out.en.frozen (k * 5 + 3); have df4 := ho3.out.en.frozen (k * 5 + 4); have hgA4 := (ho3.out.en.lt gA rfl).2)
    | ((with_reducible refine wpT_noL ?_ ?_); (focus (first | exact wanted_no _ _ _ rfl rfl rfl | exact wanted_un _ _ _ rfl rfl rfl)); simp only [setO, List.set_cons_succ, List.set_cons_zero]) | ((with_reducible refine wpT_q0 ?_ ?_ ?_ ?_); (focus rfl); (focus rfl); (focus rfl); intro K hK) | ((with_reducible refine wpT_i ?_ ?_); (focus (refine ⟨_, _, _, _, _, _, _, _, rfl, rfl, rfl, rfl, rfl, ?_⟩; omega)); intro K hK) | ((with_reducible refine wpT_ncw ?_ ?_ ?_); (focus (first | exact .inl rfl | exact .inr (wanted_yes _ _ _ rfl rfl rfl))); (focus exact ⟨_, _, rfl, rfl, rfl⟩); intro K hK) | ((with_reducible refine wpT_x0 ?_ ?_ ?_); (focus rfl); (focus rfl); intro K hK) | ((with_reducible refine wpT_q1 ?_ ?_ ?_ ?_); (focus exact wanted_yes _ _ _ rfl rfl rfl); (focus rfl); (focus rfl); intro K hK) | ((with_reducible refine wpT_x1 ?_ ?_ ?_); (focus exact wanted_yes _ _ _ rfl rfl rfl); (focus rfl); intro K hK) | ((with_reducible refine wpT_nil ?_); try dsimp only)
    | fail)
  refine wp_region_T (fun _ => True) [] [] [] [0, 1, 2, 3, 4, 5, 6, 7, 8, 9, 10, 11, 12, 13, 14, 15, 16, 17, 18, 19, 20] (by kernel_rfl) (by kernel_rfl) (by kernel_rfl) trivial ?_; simp only [pickL, List.getElem?_cons_succ, List.getElem?_cons_zero]
  go_wp2_with (first
    | ((with_reducible refine wpT_noL ?_ ?_); (focus (first | exact wanted_no _ _ _ rfl rfl rfl | exact wanted_un _ _ _ rfl rfl rfl)); simp only [setO, List.set_cons_succ, List.set_cons_zero]) | ((with_reducible refine wpT_q0 ?_ ?_ ?_ ?_); (focus rfl); (focus rfl); (focus rfl); intro K hK) | ((with_reducible refine wpT_i ?_ ?_); (focus (refine ⟨_, _, _, _, _, _, _, _, rfl, rfl, rfl, rfl, rfl, ?_⟩; omega)); intro K hK) | ((with_reducible refine wpT_ncw ?_ ?_ ?_); (focus (first | exact .inl rfl | exact .inr (wanted_yes _ _ _ rfl rfl rfl))); (focus exact ⟨_, _, rfl, rfl, rfl⟩); intro K hK) | ((with_reducible refine wpT_x0 ?_ ?_ ?_); (focus rfl); (focus rfl); intro K hK) | ((with_reducible refine wpT_q1 ?_ ?_ ?_ ?_); (focus exact wanted_yes _ _ _ rfl rfl rfl); (focus rfl); (focus rfl); intro K hK) | ((with_reducible refine wpT_x1 ?_ ?_ ?_); (focus exact wanted_yes _ _ _ rfl rfl rfl); (focus rfl); intro K hK) | ((with_reducible refine wpT_nil ?_); try dsimp only)
    | fail)
  go_ret
  rw [hh.out]
  have hP := ActPost.same 8 hbx3 ho3.out hnA'.out hB3
  (repeat (first | exact hP | refine ActPost.dr ?_))

set_option maxRecDepth 100000 in
set_option maxHeartbeats 2000000 in
theorem actFarSelf (bx lo gB gE : Nat) (A : Option Addr) (n : Nat) (g : GameT) (r : AskT) (w : World) (hbx : Bx3 w bx (.slice A n n) (.slice (some ⟨gB, 0, none⟩) 16 16) (.slice (some ⟨gE, 0, none⟩) 4 4) 35) (ho : GmO w lo A n n (some ⟨gB, 0, none⟩) 16 16 (some ⟨gE, 0, none⟩) 4 4 g)
    (hlo : lo ≤ bx) (hnA : ∀ k, (Value.slice A n n).ownBlock = some k → k ≠ bx) (hnB : gB ≠ bx) (hnE : gE ≠ bx) (hok : okG' g) (hr : okA r) (k : Nat) (hfi : figI g.1 r.1 = some k) (hop : r.2.2.1 = 4 ∨ r.2.2.1 = 5) (i : Nat) (hfj : figI g.1 r.2.2.2.1 = some i) (hik : i = k) :
    Calls Tryd.prog 44 #[.pointer (some ⟨bx, 0, none⟩), .agg #[.int .i64 r.1, .int .i64 r.2.1, .int .i64 r.2.2.1, .int .i64 r.2.2.2.1, .int .i64 r.2.2.2.2]] w fun e w' => ActPost bx lo gB gE w (behG g r) e w' := by
  have hA1 := (Below.refl w.heap.size w).alloc (Nat.le_refl _) (.cells #[.int .i64 r.1, .int .i64 r.2.1, .int .i64 r.2.2.1, .int .i64 r.2.2.2.1, .int .i64 r.2.2.2.2] 37)
  have hbr1 := Bx5.made w r 37
  have hbx1 := hbx.below hA1 hbx.lt
  have ho1 := hide (ho.below hA1)
  have hz1 : w.heap.size + 1 ≤ (w.alloc (.cells #[.int .i64 r.1, .int .i64 r.2.1, .int .i64 r.2.2.1, .int .i64 r.2.2.2.1, .int .i64 r.2.2.2.2] 37)).heap.size := by simp only [World.size_alloc]; omega
  have hbl := hbx.lt
  obtain ⟨xx0, xx1, xx2, xf0, xf1, xf2⟩ := hbx1.cells
  obtain ⟨rr0, rr1, rr2, rr3, rr4, -⟩ := hbr1.cells
  have hlx := hbx1.lt
  have hlr := hbr1.lt
  have hn' := hide ho.en.lenEq
  have hn4 : n ≤ 4 := by
    have h3 := inc_len hok.inc (fun e he => (hok.ent e he).1)
    have := hn'.out
    omega
  have hok' := hide hok
  have hrH := hide hr
  have hnA' := hide hnA
  have hoH := hide ho
  clear hok hr ho hbx hnA
  have hq1 : (r.2.2.1 == 1) = false := by simp <;> omega
  have hq2 : (r.2.2.1 == 2) = false := by simp <;> omega
  have hq3 : (r.2.2.1 == 3) = false := by simp <;> omega
  have hbe := hide (behG_act hfi (show r.2.2.1 ≠ 1 by omega))
  have hk := figI_lt hfi
  have hkn : k < n := by have := hn'.out; omega
  obtain ⟨gA, rfl, hgA1, hgA2⟩ := ho1.out.en.addrAt (show 0 < n by omega)
  have hAx : gA ≠ bx := hnA'.out gA rfl
  obtain ⟨hAB, hAE, hBE⟩ := ho1.out.sep
  have hAw := (hoH.out.en.lt gA rfl).2
  have hBw := (hoH.out.fl.lt gB rfl).2
  have hAw1 : ¬ w.heap.size = gA := by omega
  have hAw2 : ¬ gA = w.heap.size := by omega
  have hBw1 : ¬ w.heap.size = gB := by omega
  have hBw2 : ¬ gB = w.heap.size := by omega
  have hek := (okG'.full hok'.out).ent _ (List.getElem_mem hk)
  unfold entOk rng at hek
  have hk0 : decide ((k : Int) < 0) = false := by simp <;> omega
  have hi := figI_lt hfj
  have hin : i < n := by have := hn'.out; omega
  have hei := (okG'.full hok'.out).ent _ (List.getElem_mem hi)
  unfold entOk rng at hei
  have hi0 : decide ((i : Int) < 0) = false := by simp <;> omega
  have hh := hide (show behG g r = (g, 8) by rw [hbe.out, actG_some k (by omega) (by omega) hfj]; exact other_far hk hi (.inl hik))
  have hik' : (((i : Nat) : Int) == ((k : Nat) : Int)) = true := by simp [hik]
  have hikh := hide hik
  clear hop hik
  go_enter Tryd.func44, Tryd.ntmps44
  go_wp2
  generalize w.alloc (.cells #[.int .i64 r.1, .int .i64 r.2.1, .int .i64 r.2.2.1, .int .i64 r.2.2.2.1, .int .i64 r.2.2.2.2] 37) = w1 at *
  refine wp_region_T (fun _ => True) [] [] [] [0, 1, 2, 3, 4, 5, 6] (by kernel_rfl) (by kernel_rfl) (by kernel_rfl) trivial ?_; simp only [pickL, List.getElem?_cons_succ, List.getElem?_cons_zero]
  go_wp2_with (first
    | (go_at_call 70; refine (figure_some _ n n (some ⟨gB, 0, none⟩) 16 16 (some ⟨gE, 0, none⟩) 4 4 lo w1.heap.size r.1 g.1 w1.drew (show RdN 5 (flatR encEnt) w1.drew lo w1.heap.size _ n n g.1 from Own.rdn (w := w1.drew) encEnt_len ho1.out.en.drew) (Nat.le_refl _) k hfi).mono ?_; rintro e w2 ⟨rfl, hb2⟩; have hb12 : Below w1.heap.size w1 w2 := Below.appR (Below.drew (Below.refl _ _)) hb2; have hbx2 := hbx1.below hb12 hlx; have hbr2 := hbr1.below hb12 hlr; have ho2 := hide (ho1.out.below hb12); have hz2 := hb12.size; have hB2 : Below lo w w2 := (hA1.mono (by omega)).trans (hb12.mono (by omega)); clear xx0 xx1 xx2 xf0 xf1 xf2 rr0 rr1 rr2 rr3 rr4; obtain ⟨xx0, xx1, xx2, xf0, xf1, xf2⟩ := hbx2.cells; obtain ⟨rr0, rr1, rr2, rr3, rr4, -⟩ := hbr2.cells; have hlx2 := hbx2.lt; have hlr2 := hbr2.lt)
    | ((with_reducible refine wpT_noL ?_ ?_); (focus (first | exact wanted_no _ _ _ rfl rfl rfl | exact wanted_un _ _ _ rfl rfl rfl)); simp only [setO, List.set_cons_succ, List.set_cons_zero]) | ((with_reducible refine wpT_q0 ?_ ?_ ?_ ?_); (focus rfl); (focus rfl); (focus rfl); intro K hK) | ((with_reducible refine wpT_i ?_ ?_); (focus (refine ⟨_, _, _, _, _, _, _, _, rfl, rfl, rfl, rfl, rfl, ?_⟩; omega)); intro K hK) | ((with_reducible refine wpT_ncw ?_ ?_ ?_); (focus (first | exact .inl rfl | exact .inr (wanted_yes _ _ _ rfl rfl rfl))); (focus exact ⟨_, _, rfl, rfl, rfl⟩); intro K hK) | ((with_reducible refine wpT_x0 ?_ ?_ ?_); (focus rfl); (focus rfl); intro K hK) | ((with_reducible refine wpT_q1 ?_ ?_ ?_ ?_); (focus exact wanted_yes _ _ _ rfl rfl rfl); (focus rfl); (focus rfl); intro K hK) | ((with_reducible refine wpT_x1 ?_ ?_ ?_); (focus exact wanted_yes _ _ _ rfl rfl rfl); (focus rfl); intro K hK) | ((with_reducible refine wpT_nil ?_); try dsimp only)
    | fail)
  obtain ⟨d0, d1, d2, d3, d4⟩ := (ho2.out.en.slAt encEnt_len).2.2.getEnt hk
  simp only [Nat.zero_add] at d0 d1 d2 d3 d4
  have df0 := ho2.out.en.frozen (k * 5)
  have df1 := ho2.out.en.frozen (k * 5 + 1)
  have df2 := ho2.out.en.frozen (k * 5 + 2)
  have df3 := ho2.out.en.frozen (k * 5 + 3)
  have df4 := ho2.out.en.frozen (k * 5 + 4)
  have hgA3 := (ho2.out.en.lt gA rfl).2
  go_wp2
  refine wp_region_T (fun _ => True) [] [] [] [0, 1, 2, 3, 4, 5, 6] (by kernel_rfl) (by kernel_rfl) (by kernel_rfl) trivial ?_; simp only [pickL, List.getElem?_cons_succ, List.getElem?_cons_zero]
  go_wp2_with (first
    | (go_at_call 70; refine (figure_some (some ⟨gA, 0, none⟩) n n (some ⟨gB, 0, none⟩) 16 16 (some ⟨gE, 0, none⟩) 4 4 lo w2.heap.size r.2.2.2.1 g.1 w2.drew (show RdN 5 (flatR encEnt) w2.drew lo w2.heap.size (some ⟨gA, 0, none⟩) n n g.1 from Own.rdn (w := w2.drew) encEnt_len ho2.out.en.drew) (Nat.le_refl _) i hfj).mono ?_; rintro e w3 ⟨rfl, hb3⟩; have hb23 : Below w2.heap.size w2 w3 := Below.appR (Below.drew (Below.refl _ _)) hb3; have hbx3 := hbx2.below hb23 hlx2; have hbr3 := hbr2.below hb23 hlr2; have ho3 := hide (ho2.out.below hb23); have hz3 := hb23.size; have hB3 : Below lo w w3 := hB2.trans (hb23.mono (by omega)); clear xx0 xx1 xx2 xf0 xf1 xf2 rr0 rr1 rr2 rr3 rr4; obtain ⟨xx0, xx1, xx2, xf0, xf1, xf2⟩ := hbx3.cells; obtain ⟨rr0, rr1, rr2, rr3, rr4, -⟩ := hbr3.cells; have hlx3 := hbx3.lt; have hlr3 := hbr3.lt; clear d0 d1 d2 d3 d4 df0 df1 df2 df3 df4; obtain ⟨d0, d1, d2, d3, d4⟩ := (ho3.out.en.slAt encEnt_len).2.2.getEnt hk; simp only [Nat.zero_add] at d0 d1 d2 d3 d4; have df0 := ho3.out.en.frozen (k * 5); have df1 := ho3.out.en.frozen (k * 5 + 1); have df2 := ho3.out.en.frozen (k * 5 + 2); have df3 := ho3.out.en.frozen (k * 5 + 3); have df4 := ho3.out.en.frozen (k * 5 + 4); have hgA4 := (ho3.out.en.lt gA rfl).2)
    | ((with_reducible refine wpT_noL ?_ ?_); (focus (first | exact wanted_no _ _ _ rfl rfl rfl | exact wanted_un _ _ _ rfl rfl rfl)); simp only [setO, List.set_cons_succ, List.set_cons_zero]) | ((with_reducible refine wpT_q0 ?_ ?_ ?_ ?_); (focus rfl); (focus rfl); (focus rfl); intro K hK) | ((with_reducible refine wpT_i ?_ ?_); (focus (refine ⟨_, _, _, _, _, _, _, _, rfl, rfl, rfl, rfl, rfl, ?_⟩; omega)); intro K hK) | ((with_reducible refine wpT_ncw ?_ ?_ ?_); (focus (first | exact .inl rfl | exact .inr (wanted_yes _ _ _ rfl rfl rfl))); (focus exact ⟨_, _, rfl, rfl, rfl⟩); intro K hK) | ((with_reducible refine wpT_x0 ?_ ?_ ?_); (focus rfl); (focus rfl); intro K hK) | ((with_reducible refine wpT_q1 ?_ ?_ ?_ ?_); (focus exact wanted_yes _ _ _ rfl rfl rfl); (focus rfl); (focus rfl); intro K hK) | ((with_reducible refine wpT_x1 ?_ ?_ ?_); (focus exact wanted_yes _ _ _ rfl rfl rfl); (focus rfl); intro K hK) | ((with_reducible refine wpT_nil ?_); try dsimp only)
    | fail)
  refine wp_region_T (fun _ => True) [] [] [] [0, 1, 2, 3, 4, 5, 6, 7, 8, 9, 10, 11, 12, 13, 14, 15, 16, 17, 18, 19, 20] (by kernel_rfl) (by kernel_rfl) (by kernel_rfl) trivial ?_; simp only [pickL, List.getElem?_cons_succ, List.getElem?_cons_zero]
  go_wp2_with (first
    | ((with_reducible refine wpT_noL ?_ ?_); (focus (first | exact wanted_no _ _ _ rfl rfl rfl | exact wanted_un _ _ _ rfl rfl rfl)); simp only [setO, List.set_cons_succ, List.set_cons_zero]) | ((with_reducible refine wpT_q0 ?_ ?_ ?_ ?_); (focus rfl); (focus rfl); (focus rfl); intro K hK) | ((with_reducible refine wpT_i ?_ ?_); (focus (refine ⟨_, _, _, _, _, _, _, _, rfl, rfl, rfl, rfl, rfl, ?_⟩; omega)); intro K hK) | ((with_reducible refine wpT_ncw ?_ ?_ ?_); (focus (first | exact .inl rfl | exact .inr (wanted_yes _ _ _ rfl rfl rfl))); (focus exact ⟨_, _, rfl, rfl, rfl⟩); intro K hK) | ((with_reducible refine wpT_x0 ?_ ?_ ?_); (focus rfl); (focus rfl); intro K hK) | ((with_reducible refine wpT_q1 ?_ ?_ ?_ ?_); (focus exact wanted_yes _ _ _ rfl rfl rfl); (focus rfl); (focus rfl); intro K hK) | ((with_reducible refine wpT_x1 ?_ ?_ ?_); (focus exact wanted_yes _ _ _ rfl rfl rfl); (focus rfl); intro K hK) | ((with_reducible refine wpT_nil ?_); try dsimp only)
    | fail)
  go_ret
  rw [hh.out]
  have hP := ActPost.same 8 hbx3 ho3.out hnA'.out hB3
  (repeat (first | exact hP | refine ActPost.dr ?_))

set_option maxRecDepth 100000 in
set_option maxHeartbeats 2000000 in
theorem actFar (bx lo gB gE : Nat) (A : Option Addr) (n : Nat) (g : GameT) (r : AskT) (w : World) (hbx : Bx3 w bx (.slice A n n) (.slice (some ⟨gB, 0, none⟩) 16 16) (.slice (some ⟨gE, 0, none⟩) 4 4) 35) (ho : GmO w lo A n n (some ⟨gB, 0, none⟩) 16 16 (some ⟨gE, 0, none⟩) 4 4 g)
    (hlo : lo ≤ bx) (hnA : ∀ k, (Value.slice A n n).ownBlock = some k → k ≠ bx) (hnB : gB ≠ bx) (hnE : gE ≠ bx) (hok : okG' g) (hr : okA r) (k : Nat) (hfi : figI g.1 r.1 = some k) (hop : r.2.2.1 = 4 ∨ r.2.2.1 = 5) (i : Nat) (hfj : figI g.1 r.2.2.2.1 = some i) (hik : ¬ i = k) (hnear : ∀ (hk : k < g.1.length) (hi : i < g.1.length), ¬ nearE g.1[k] g.1[i]) :
    Calls Tryd.prog 44 #[.pointer (some ⟨bx, 0, none⟩), .agg #[.int .i64 r.1, .int .i64 r.2.1, .int .i64 r.2.2.1, .int .i64 r.2.2.2.1, .int .i64 r.2.2.2.2]] w fun e w' => ActPost bx lo gB gE w (behG g r) e w' := by
  have hA1 := (Below.refl w.heap.size w).alloc (Nat.le_refl _) (.cells #[.int .i64 r.1, .int .i64 r.2.1, .int .i64 r.2.2.1, .int .i64 r.2.2.2.1, .int .i64 r.2.2.2.2] 37)
  have hbr1 := Bx5.made w r 37
  have hbx1 := hbx.below hA1 hbx.lt
  have ho1 := hide (ho.below hA1)
  have hz1 : w.heap.size + 1 ≤ (w.alloc (.cells #[.int .i64 r.1, .int .i64 r.2.1, .int .i64 r.2.2.1, .int .i64 r.2.2.2.1, .int .i64 r.2.2.2.2] 37)).heap.size := by simp only [World.size_alloc]; omega
  have hbl := hbx.lt
  obtain ⟨xx0, xx1, xx2, xf0, xf1, xf2⟩ := hbx1.cells
  obtain ⟨rr0, rr1, rr2, rr3, rr4, -⟩ := hbr1.cells
  have hlx := hbx1.lt
  have hlr := hbr1.lt
  have hn' := hide ho.en.lenEq
  have hn4 : n ≤ 4 := by
    have h3 := inc_len hok.inc (fun e he => (hok.ent e he).1)
    have := hn'.out
    omega
  have hok' := hide hok
  have hrH := hide hr
  have hnA' := hide hnA
  have hoH := hide ho
  clear hok hr ho hbx hnA
  have hq1 : (r.2.2.1 == 1) = false := by simp <;> omega
  have hq2 : (r.2.2.1 == 2) = false := by simp <;> omega
  have hq3 : (r.2.2.1 == 3) = false := by simp <;> omega
  have hbe := hide (behG_act hfi (show r.2.2.1 ≠ 1 by omega))
  have hik' : (((i : Nat) : Int) == ((k : Nat) : Int)) = false := by simp <;> omega
  have hikh := hide hik
  have hk := figI_lt hfi
  have hkn : k < n := by have := hn'.out; omega
  obtain ⟨gA, rfl, hgA1, hgA2⟩ := ho1.out.en.addrAt (show 0 < n by omega)
  have hAx : gA ≠ bx := hnA'.out gA rfl
  obtain ⟨hAB, hAE, hBE⟩ := ho1.out.sep
  have hAw := (hoH.out.en.lt gA rfl).2
  have hBw := (hoH.out.fl.lt gB rfl).2
  have hAw1 : ¬ w.heap.size = gA := by omega
  have hAw2 : ¬ gA = w.heap.size := by omega
  have hBw1 : ¬ w.heap.size = gB := by omega
  have hBw2 : ¬ gB = w.heap.size := by omega
  have hek := (okG'.full hok'.out).ent _ (List.getElem_mem hk)
  unfold entOk rng at hek
  have hk0 : decide ((k : Int) < 0) = false := by simp <;> omega
  have hi := figI_lt hfj
  have hin : i < n := by have := hn'.out; omega
  have hei := (okG'.full hok'.out).ent _ (List.getElem_mem hi)
  unfold entOk rng at hei
  have hi0 : decide ((i : Int) < 0) = false := by simp <;> omega
  have hh := hide (show behG g r = (g, 8) by rw [hbe.out, actG_some k (by omega) (by omega) hfj]; exact other_far hk hi (.inr (hnear hk hi)))
  have hnq : decide (nearE g.1[k] g.1[i]) = false := by simpa using hnear hk hi
  clear hop hik hnear
  go_enter Tryd.func44, Tryd.ntmps44
  go_wp2
  generalize w.alloc (.cells #[.int .i64 r.1, .int .i64 r.2.1, .int .i64 r.2.2.1, .int .i64 r.2.2.2.1, .int .i64 r.2.2.2.2] 37) = w1 at *
  refine wp_region_T (fun _ => True) [] [] [] [0, 1, 2, 3, 4, 5, 6] (by kernel_rfl) (by kernel_rfl) (by kernel_rfl) trivial ?_; simp only [pickL, List.getElem?_cons_succ, List.getElem?_cons_zero]
  go_wp2_with (first
    | (go_at_call 70; refine (figure_some _ n n (some ⟨gB, 0, none⟩) 16 16 (some ⟨gE, 0, none⟩) 4 4 lo w1.heap.size r.1 g.1 w1.drew (show RdN 5 (flatR encEnt) w1.drew lo w1.heap.size _ n n g.1 from Own.rdn (w := w1.drew) encEnt_len ho1.out.en.drew) (Nat.le_refl _) k hfi).mono ?_; rintro e w2 ⟨rfl, hb2⟩; have hb12 : Below w1.heap.size w1 w2 := Below.appR (Below.drew (Below.refl _ _)) hb2; have hbx2 := hbx1.below hb12 hlx; have hbr2 := hbr1.below hb12 hlr; have ho2 := hide (ho1.out.below hb12); have hz2 := hb12.size; have hB2 : Below lo w w2 := (hA1.mono (by omega)).trans (hb12.mono (by omega)); clear xx0 xx1 xx2 xf0 xf1 xf2 rr0 rr1 rr2 rr3 rr4; obtain ⟨xx0, xx1, xx2, xf0, xf1, xf2⟩ := hbx2.cells; obtain ⟨rr0, rr1, rr2, rr3, rr4, -⟩ := hbr2.cells; have hlx2 := hbx2.lt; have hlr2 := hbr2.lt)
    | ((with_reducible refine wpT_noL ?_ ?_); (focus (first | exact wanted_no _ _ _ rfl rfl rfl | exact wanted_un _ _ _ rfl rfl rfl)); simp only [setO, List.set_cons_succ, List.set_cons_zero]) | ((with_reducible refine wpT_q0 ?_ ?_ ?_ ?_); (focus rfl); (focus rfl); (focus rfl); intro K hK) | ((with_reducible refine wpT_i ?_ ?_); (focus (refine ⟨_, _, _, _, _, _, _, _, rfl, rfl, rfl, rfl, rfl, ?_⟩; omega)); intro K hK) | ((with_reducible refine wpT_ncw ?_ ?_ ?_); (focus (first | exact .inl rfl | exact .inr (wanted_yes _ _ _ rfl rfl rfl))); (focus exact ⟨_, _, rfl, rfl, rfl⟩); intro K hK) | ((with_reducible refine wpT_x0 ?_ ?_ ?_); (focus rfl); (focus rfl); intro K hK) | ((with_reducible refine wpT_q1 ?_ ?_ ?_ ?_); (focus exact wanted_yes _ _ _ rfl rfl rfl); (focus rfl); (focus rfl); intro K hK) | ((with_reducible refine wpT_x1 ?_ ?_ ?_); (focus exact wanted_yes _ _ _ rfl rfl rfl); (focus rfl); intro K hK) | ((with_reducible refine wpT_nil ?_); try dsimp only)
    | fail)
  obtain ⟨d0, d1, d2, d3, d4⟩ := (ho2.out.en.slAt encEnt_len).2.2.getEnt hk
  simp only [Nat.zero_add] at d0 d1 d2 d3 d4
  have df0 := ho2.out.en.frozen (k * 5)
  have df1 := ho2.out.en.frozen (k * 5 + 1)
  have df2 := ho2.out.en.frozen (k * 5 + 2)
  have df3 := ho2.out.en.frozen (k * 5 + 3)
  have df4 := ho2.out.en.frozen (k * 5 + 4)
  have hgA3 := (ho2.out.en.lt gA rfl).2
  go_wp2
  refine wp_region_T (fun _ => True) [] [] [] [0, 1, 2, 3, 4, 5, 6] (by kernel_rfl) (by kernel_rfl) (by kernel_rfl) trivial ?_; simp only [pickL, List.getElem?_cons_succ, List.getElem?_cons_zero]
  go_wp2_with (first
    | (go_at_call 70; refine (figure_some (some ⟨gA, 0, none⟩) n n (some ⟨gB, 0, none⟩) 16 16 (some ⟨gE, 0, none⟩) 4 4 lo w2.heap.size r.2.2.2.1 g.1 w2.drew (show RdN 5 (flatR encEnt) w2.drew lo w2.heap.size (some ⟨gA, 0, none⟩) n n g.1 from Own.rdn (w := w2.drew) encEnt_len ho2.out.en.drew) (Nat.le_refl _) i hfj).mono ?_; rintro e w3 ⟨rfl, hb3⟩; have hb23 : Below w2.heap.size w2 w3 := Below.appR (Below.drew (Below.refl _ _)) hb3; have hbx3 := hbx2.below hb23 hlx2; have hbr3 := hbr2.below hb23 hlr2; have ho3 := hide (ho2.out.below hb23); have hz3 := hb23.size; have hB3 : Below lo w w3 := hB2.trans (hb23.mono (by omega)); clear xx0 xx1 xx2 xf0 xf1 xf2 rr0 rr1 rr2 rr3 rr4; obtain ⟨xx0, xx1, xx2, xf0, xf1, xf2⟩ := hbx3.cells; obtain ⟨rr0, rr1, rr2, rr3, rr4, -⟩ := hbr3.cells; have hlx3 := hbx3.lt; have hlr3 := hbr3.lt; clear d0 d1 d2 d3 d4 df0 df1 df2 df3 df4; obtain ⟨d0, d1, d2, d3, d4⟩ := (ho3.out.en.slAt encEnt_len).2.2.getEnt hk; simp only [Nat.zero_add] at d0 d1 d2 d3 d4; have df0 := ho3.out.en.frozen (k * 5); have df1 := ho3.out.en.frozen (k * 5 + 1); have df2 := ho3.out.en.frozen (k * 5 + 2); have df3 := ho3.out.en.frozen (k * 5 + 3); have df4 := ho3.out.en.frozen (k * 5 + 4); have hgA4 := (ho3.out.en.lt gA rfl).2)
    | ((with_reducible refine wpT_noL ?_ ?_); (focus (first | exact wanted_no _ _ _ rfl rfl rfl | exact wanted_un _ _ _ rfl rfl rfl)); simp only [setO, List.set_cons_succ, List.set_cons_zero]) | ((with_reducible refine wpT_q0 ?_ ?_ ?_ ?_); (focus rfl); (focus rfl); (focus rfl); intro K hK) | ((with_reducible refine wpT_i ?_ ?_); (focus (refine ⟨_, _, _, _, _, _, _, _, rfl, rfl, rfl, rfl, rfl, ?_⟩; omega)); intro K hK) | ((with_reducible refine wpT_ncw ?_ ?_ ?_); (focus (first | exact .inl rfl | exact .inr (wanted_yes _ _ _ rfl rfl rfl))); (focus exact ⟨_, _, rfl, rfl, rfl⟩); intro K hK) | ((with_reducible refine wpT_x0 ?_ ?_ ?_); (focus rfl); (focus rfl); intro K hK) | ((with_reducible refine wpT_q1 ?_ ?_ ?_ ?_); (focus exact wanted_yes _ _ _ rfl rfl rfl); (focus rfl); (focus rfl); intro K hK) | ((with_reducible refine wpT_x1 ?_ ?_ ?_); (focus exact wanted_yes _ _ _ rfl rfl rfl); (focus rfl); intro K hK) | ((with_reducible refine wpT_nil ?_); try dsimp only)
    | fail)
  obtain ⟨i0, i1, i2, i3, i4⟩ := (ho3.out.en.slAt encEnt_len).2.2.getEnt hi
  simp only [Nat.zero_add] at i0 i1 i2 i3 i4
  have if0 := ho3.out.en.frozen (i * 5)
  have if1 := ho3.out.en.frozen (i * 5 + 1)
  have if2 := ho3.out.en.frozen (i * 5 + 2)
  have if3 := ho3.out.en.frozen (i * 5 + 3)
  have if4 := ho3.out.en.frozen (i * 5 + 4)
  refine wp_region_T (fun _ => True) [] [] [] [0, 1, 2, 3, 4, 5, 6, 7, 8, 9, 10, 11, 12, 13, 14, 15, 16, 17, 18, 19, 20] (by kernel_rfl) (by kernel_rfl) (by kernel_rfl) trivial ?_; simp only [pickL, List.getElem?_cons_succ, List.getElem?_cons_zero]
  go_wp2_with (first
    | (go_at_call 73; refine (nearI_c g.1[k] g.1[i] _ ⟨hek.2.1, hek.2.2.1⟩ ⟨hei.2.1, hei.2.2.1⟩).mono ?_; rintro e w4 ⟨rfl, hb4⟩; simp only [hnq]; have hb34 : Below w3.heap.size w3 w4 := Below.appR (Below.drew (Below.refl _ _)) hb4; have hbx4 := hbx3.below hb34 hlx3; have hbr4 := hbr3.below hb34 hlr3; have ho4 := hide (ho3.out.below hb34); have hz4 := hb34.size; have hB4 : Below lo w w4 := hB3.trans (hb34.mono (by omega)); clear xx0 xx1 xx2 xf0 xf1 xf2 rr0 rr1 rr2 rr3 rr4; obtain ⟨xx0, xx1, xx2, xf0, xf1, xf2⟩ := hbx4.cells; obtain ⟨rr0, rr1, rr2, rr3, rr4, -⟩ := hbr4.cells; have hlx4 := hbx4.lt; have hlr4 := hbr4.lt; clear d0 d1 d2 d3 d4 df0 df1 df2 df3 df4; obtain ⟨d0, d1, d2, d3, d4⟩ := (ho4.out.en.slAt encEnt_len).2.2.getEnt hk; simp only [Nat.zero_add] at d0 d1 d2 d3 d4; have df0 := ho4.out.en.frozen (k * 5); have df1 := ho4.out.en.frozen (k * 5 + 1); have df2 := ho4.out.en.frozen (k * 5 + 2); have df3 := ho4.out.en.frozen (k * 5 + 3); have df4 := ho4.out.en.frozen (k * 5 + 4); clear i0 i1 i2 i3 i4 if0 if1 if2 if3 if4; obtain ⟨i0, i1, i2, i3, i4⟩ := (ho4.out.en.slAt encEnt_len).2.2.getEnt hi; simp only [Nat.zero_add] at i0 i1 i2 i3 i4; have if0 := ho4.out.en.frozen (i * 5); have if1 := ho4.out.en.frozen (i * 5 + 1); have if2 := ho4.out.en.frozen (i * 5 + 2); have if3 := ho4.out.en.frozen (i * 5 + 3); have if4 := ho4.out.en.frozen (i * 5 + 4); have hgA5 := (ho4.out.en.lt gA rfl).2)
    | ((with_reducible refine wpT_noL ?_ ?_); (focus (first | exact wanted_no _ _ _ rfl rfl rfl | exact wanted_un _ _ _ rfl rfl rfl)); simp only [setO, List.set_cons_succ, List.set_cons_zero]) | ((with_reducible refine wpT_q0 ?_ ?_ ?_ ?_); (focus rfl); (focus rfl); (focus rfl); intro K hK) | ((with_reducible refine wpT_i ?_ ?_); (focus (refine ⟨_, _, _, _, _, _, _, _, rfl, rfl, rfl, rfl, rfl, ?_⟩; omega)); intro K hK) | ((with_reducible refine wpT_ncw ?_ ?_ ?_); (focus (first | exact .inl rfl | exact .inr (wanted_yes _ _ _ rfl rfl rfl))); (focus exact ⟨_, _, rfl, rfl, rfl⟩); intro K hK) | ((with_reducible refine wpT_x0 ?_ ?_ ?_); (focus rfl); (focus rfl); intro K hK) | ((with_reducible refine wpT_q1 ?_ ?_ ?_ ?_); (focus exact wanted_yes _ _ _ rfl rfl rfl); (focus rfl); (focus rfl); intro K hK) | ((with_reducible refine wpT_x1 ?_ ?_ ?_); (focus exact wanted_yes _ _ _ rfl rfl rfl); (focus rfl); intro K hK) | ((with_reducible refine wpT_nil ?_); try dsimp only)
    | fail)
  go_ret
  rw [hh.out]
  have hP := ActPost.same 8 hbx4 ho4.out hnA'.out hB4
  (repeat (first | exact hP | refine ActPost.dr ?_))

set_option maxRecDepth 100000 in
set_option maxHeartbeats 2000000 in
theorem actGive (bx lo gB gE : Nat) (A : Option Addr) (n : Nat) (g : GameT) (r : AskT) (w : World) (hbx : Bx3 w bx (.slice A n n) (.slice (some ⟨gB, 0, none⟩) 16 16) (.slice (some ⟨gE, 0, none⟩) 4 4) 35) (ho : GmO w lo A n n (some ⟨gB, 0, none⟩) 16 16 (some ⟨gE, 0, none⟩) 4 4 g)
    (hlo : lo ≤ bx) (hnA : ∀ k, (Value.slice A n n).ownBlock = some k → k ≠ bx) (hnB : gB ≠ bx) (hnE : gE ≠ bx) (hok : okG' g) (hr : okA r) (k : Nat) (hfi : figI g.1 r.1 = some k) (hop : r.2.2.1 = 5) (i : Nat) (hfj : figI g.1 r.2.2.2.1 = some i) (hik : ¬ i = k) (hnear : ∀ (hk : k < g.1.length) (hi : i < g.1.length), nearE g.1[k] g.1[i]) :
    Calls Tryd.prog 44 #[.pointer (some ⟨bx, 0, none⟩), .agg #[.int .i64 r.1, .int .i64 r.2.1, .int .i64 r.2.2.1, .int .i64 r.2.2.2.1, .int .i64 r.2.2.2.2]] w fun e w' => ActPost bx lo gB gE w (behG g r) e w' := by
  have hA1 := (Below.refl w.heap.size w).alloc (Nat.le_refl _) (.cells #[.int .i64 r.1, .int .i64 r.2.1, .int .i64 r.2.2.1, .int .i64 r.2.2.2.1, .int .i64 r.2.2.2.2] 37)
  have hbr1 := Bx5.made w r 37
  have hbx1 := hbx.below hA1 hbx.lt
  have ho1 := hide (ho.below hA1)
  have hz1 : w.heap.size + 1 ≤ (w.alloc (.cells #[.int .i64 r.1, .int .i64 r.2.1, .int .i64 r.2.2.1, .int .i64 r.2.2.2.1, .int .i64 r.2.2.2.2] 37)).heap.size := by simp only [World.size_alloc]; omega
  have hbl := hbx.lt
  obtain ⟨xx0, xx1, xx2, xf0, xf1, xf2⟩ := hbx1.cells
  obtain ⟨rr0, rr1, rr2, rr3, rr4, -⟩ := hbr1.cells
  have hlx := hbx1.lt
  have hlr := hbr1.lt
  have hn' := hide ho.en.lenEq
  have hn4 : n ≤ 4 := by
    have h3 := inc_len hok.inc (fun e he => (hok.ent e he).1)
    have := hn'.out
    omega
  have hok' := hide hok
  have hrH := hide hr
  have hnA' := hide hnA
  have hoH := hide ho
  clear hok hr ho hbx hnA
  have hq1 : (r.2.2.1 == 1) = false := by simp <;> omega
  have hq2 : (r.2.2.1 == 2) = false := by simp <;> omega
  have hq3 : (r.2.2.1 == 3) = false := by simp <;> omega
  have hbe := hide (behG_act hfi (show r.2.2.1 ≠ 1 by omega))
  have hik' : (((i : Nat) : Int) == ((k : Nat) : Int)) = false := by simp <;> omega
  have hikh := hide hik
  have hk := figI_lt hfi
  have hkn : k < n := by have := hn'.out; omega
  obtain ⟨gA, rfl, hgA1, hgA2⟩ := ho1.out.en.addrAt (show 0 < n by omega)
  have hAx : gA ≠ bx := hnA'.out gA rfl
  obtain ⟨hAB, hAE, hBE⟩ := ho1.out.sep
  have hAw := (hoH.out.en.lt gA rfl).2
  have hBw := (hoH.out.fl.lt gB rfl).2
  have hAw1 : ¬ w.heap.size = gA := by omega
  have hAw2 : ¬ gA = w.heap.size := by omega
  have hBw1 : ¬ w.heap.size = gB := by omega
  have hBw2 : ¬ gB = w.heap.size := by omega
  have hek := (okG'.full hok'.out).ent _ (List.getElem_mem hk)
  unfold entOk rng at hek
  have hk0 : decide ((k : Int) < 0) = false := by simp <;> omega
  have hi := figI_lt hfj
  have hin : i < n := by have := hn'.out; omega
  have hei := (okG'.full hok'.out).ent _ (List.getElem_mem hi)
  unfold entOk rng at hei
  have hi0 : decide ((i : Int) < 0) = false := by simp <;> omega
  have hact := hide (show behG g r = if g.1[k].2.2.2.2 < r.2.2.2.2 then (g, 7) else (((g.1.set i (entG g.1[i] r.2.2.2.2)).set k (entG g.1[k] (- r.2.2.2.2)), g.2.1, g.2.2), 0) by rw [hbe.out, actG_some k (by omega) (by omega) hfj]; exact other_give hk hi hik (hnear hk hi) hop)
  have hnq : decide (nearE g.1[k] g.1[i]) = true := by simpa using hnear hk hi
  have hq5 : (r.2.2.1 == 5) = true := by simp [hop]
  have hY : 1 ≤ r.2.2.2.2 ∧ r.2.2.2.2 ≤ 9 := by have := hrH.out; unfold okA rng at this; omega
  have hne1 : ∀ a b : Nat, a < 5 → b < 5 → ¬ k * 5 + a = i * 5 + b := fun a b ha hb h => by omega
  clear hop hik hnear
  cases e2 : decide (g.1[k].2.2.2.2 < r.2.2.2.2)
  · have hh := hide (show behG g r = (((g.1.set i (entG g.1[i] r.2.2.2.2)).set k (entG g.1[k] (- r.2.2.2.2)), g.2.1, g.2.2), 0) by rw [hact.out, if_neg (by simpa using e2)])
    have hki1 : ¬ i * 5 + 4 = k * 5 + 4 := by have := hikh.out; omega
    have hki2 : ¬ k * 5 + 4 = i * 5 + 4 := by have := hikh.out; omega
    have hki3 : ¬ i = k := hikh.out
    have hki4 : ¬ k = i := fun h => hikh.out h.symm
    clear hne1
    go_enter Tryd.func44, Tryd.ntmps44
    go_wp2
    generalize w.alloc (.cells #[.int .i64 r.1, .int .i64 r.2.1, .int .i64 r.2.2.1, .int .i64 r.2.2.2.1, .int .i64 r.2.2.2.2] 37) = w1 at *
    refine wp_region_T (fun _ => True) [] [] [] [0, 1, 2, 3, 4, 5, 6] (by kernel_rfl) (by kernel_rfl) (by kernel_rfl) trivial ?_; simp only [pickL, List.getElem?_cons_succ, List.getElem?_cons_zero]
    go_wp2_with (first
      | (go_at_call 70; refine (figure_some _ n n (some ⟨gB, 0, none⟩) 16 16 (some ⟨gE, 0, none⟩) 4 4 lo w1.heap.size r.1 g.1 w1.drew (show RdN 5 (flatR encEnt) w1.drew lo w1.heap.size _ n n g.1 from Own.rdn (w := w1.drew) encEnt_len ho1.out.en.drew) (Nat.le_refl _) k hfi).mono ?_; rintro e w2 ⟨rfl, hb2⟩; have hb12 : Below w1.heap.size w1 w2 := Below.appR (Below.drew (Below.refl _ _)) hb2; have hbx2 := hbx1.below hb12 hlx; have hbr2 := hbr1.below hb12 hlr; have ho2 := hide (ho1.out.below hb12); have hz2 := hb12.size; have hB2 : Below lo w w2 := (hA1.mono (by omega)).trans (hb12.mono (by omega)); clear xx0 xx1 xx2 xf0 xf1 xf2 rr0 rr1 rr2 rr3 rr4; obtain ⟨xx0, xx1, xx2, xf0, xf1, xf2⟩ := hbx2.cells; obtain ⟨rr0, rr1, rr2, rr3, rr4, -⟩ := hbr2.cells; have hlx2 := hbx2.lt; have hlr2 := hbr2.lt)
      | ((with_reducible refine wpT_noL ?_ ?_); (focus (first | exact wanted_no _ _ _ rfl rfl rfl | exact wanted_un _ _ _ rfl rfl rfl)); simp only [setO, List.set_cons_succ, List.set_cons_zero]) | ((with_reducible refine wpT_q0 ?_ ?_ ?_ ?_); (focus rfl); (focus rfl); (focus rfl); intro K hK) | ((with_reducible refine wpT_i ?_ ?_); (focus (refine ⟨_, _, _, _, _, _, _, _, rfl, rfl, rfl, rfl, rfl, ?_⟩; omega)); intro K hK) | ((with_reducible refine wpT_ncw ?_ ?_ ?_); (focus (first | exact .inl rfl | exact .inr (wanted_yes _ _ _ rfl rfl rfl))); (focus exact ⟨_, _, rfl, rfl, rfl⟩); intro K hK) | ((with_reducible refine wpT_x0 ?_ ?_ ?_); (focus rfl); (focus rfl); intro K hK) | ((with_reducible refine wpT_q1 ?_ ?_ ?_ ?_); (focus exact wanted_yes _ _ _ rfl rfl rfl); (focus rfl); (focus rfl); intro K hK) | ((with_reducible refine wpT_x1 ?_ ?_ ?_); (focus exact wanted_yes _ _ _ rfl rfl rfl); (focus rfl); intro K hK) | ((with_reducible refine wpT_nil ?_); try dsimp only)
      | fail)
    obtain ⟨d0, d1, d2, d3, d4⟩ := (ho2.out.en.slAt encEnt_len).2.2.getEnt hk
    simp only [Nat.zero_add] at d0 d1 d2 d3 d4
    have df0 := ho2.out.en.frozen (k * 5)
    have df1 := ho2.out.en.frozen (k * 5 + 1)
    have df2 := ho2.out.en.frozen (k * 5 + 2)
    have df3 := ho2.out.en.frozen (k * 5 + 3)
    have df4 := ho2.out.en.frozen (k * 5 + 4)
    have hgA3 := (ho2.out.en.lt gA rfl).2
    go_wp2
    refine wp_region_T (fun _ => True) [] [] [] [0, 1, 2, 3, 4, 5, 6] (by kernel_rfl) (by kernel_rfl) (by kernel_rfl) trivial ?_; simp only [pickL, List.getElem?_cons_succ, List.getElem?_cons_zero]
    go_wp2_with (first
      | (go_at_call 70; refine (figure_some (some ⟨gA, 0, none⟩) n n (some ⟨gB, 0, none⟩) 16 16 (some ⟨gE, 0, none⟩) 4 4 lo w2.heap.size r.2.2.2.1 g.1 w2.drew (show RdN 5 (flatR encEnt) w2.drew lo w2.heap.size (some ⟨gA, 0, none⟩) n n g.1 from Own.rdn (w := w2.drew) encEnt_len ho2.out.en.drew) (Nat.le_refl _) i hfj).mono ?_; rintro e w3 ⟨rfl, hb3⟩; have hb23 : Below w2.heap.size w2 w3 := Below.appR (Below.drew (Below.refl _ _)) hb3; have hbx3 := hbx2.below hb23 hlx2; have hbr3 := hbr2.below hb23 hlr2; have ho3 := hide (ho2.out.below hb23); have hz3 := hb23.size; have hB3 : Below lo w w3 := hB2.trans (hb23.mono (by omega)); clear xx0 xx1 xx2 xf0 xf1 xf2 rr0 rr1 rr2 rr3 rr4; obtain ⟨xx0, xx1, xx2, xf0, xf1, xf2⟩ := hbx3.cells; obtain ⟨rr0, rr1, rr2, rr3, rr4, -⟩ := hbr3.cells; have hlx3 := hbx3.lt; have hlr3 := hbr3.lt; clear d0 d1 d2 d3 d4 df0 df1 df2 df3 df4; obtain ⟨d0, d1, d2, d3, d4⟩ := (ho3.out.en.slAt encEnt_len).2.2.getEnt hk; simp only [Nat.zero_add] at d0 d1 d2 d3 d4; have df0 := ho3.out.en.frozen (k * 5); have df1 := ho3.out.en.frozen (k * 5 + 1); have df2 := ho3.out.en.frozen (k * 5 + 2); have df3 := ho3.out.en.frozen (k * 5 + 3); have df4 := ho3.out.en.frozen (k * 5 + 4); have hgA4 := (ho3.out.en.lt gA rfl).2)
      | ((with_reducible refine wpT_noL ?_ ?_); (focus (first | exact wanted_no _ _ _ rfl rfl rfl | exact wanted_un _ _ _ rfl rfl rfl)); simp only [setO, List.set_cons_succ, List.set_cons_zero]) | ((with_reducible refine wpT_q0 ?_ ?_ ?_ ?_); (focus rfl); (focus rfl); (focus rfl); intro K hK) | ((with_reducible refine wpT_i ?_ ?_); (focus (refine ⟨_, _, _, _, _, _, _, _, rfl, rfl, rfl, rfl, rfl, ?_⟩; omega)); intro K hK) | ((with_reducible refine wpT_ncw ?_ ?_ ?_); (focus (first | exact .inl rfl | exact .inr (wanted_yes _ _ _ rfl rfl rfl))); (focus exact ⟨_, _, rfl, rfl, rfl⟩); intro K hK) | ((with_reducible refine wpT_x0 ?_ ?_ ?_); (focus rfl); (focus rfl); intro K hK) | ((with_reducible refine wpT_q1 ?_ ?_ ?_ ?_); (focus exact wanted_yes _ _ _ rfl rfl rfl); (focus rfl); (focus rfl); intro K hK) | ((with_reducible refine wpT_x1 ?_ ?_ ?_); (focus exact wanted_yes _ _ _ rfl rfl rfl); (focus rfl); intro K hK) | ((with_reducible refine wpT_nil ?_); try dsimp only)
      | fail)
    obtain ⟨i0, i1, i2, i3, i4⟩ := (ho3.out.en.slAt encEnt_len).2.2.getEnt hi
    simp only [Nat.zero_add] at i0 i1 i2 i3 i4
    have if0 := ho3.out.en.frozen (i * 5)
    have if1 := ho3.out.en.frozen (i * 5 + 1)
    have if2 := ho3.out.en.frozen (i * 5 + 2)
    have if3 := ho3.out.en.frozen (i * 5 + 3)
    have if4 := ho3.out.en.frozen (i * 5 + 4)
    refine wp_region_T (fun _ => True) [] [] [] [0, 1, 2, 3, 4, 5, 6, 7, 8, 9, 10, 11, 12, 13, 14, 15, 16, 17, 18, 19, 20] (by kernel_rfl) (by kernel_rfl) (by kernel_rfl) trivial ?_; simp only [pickL, List.getElem?_cons_succ, List.getElem?_cons_zero]
    go_wp2_with (first
      | (go_at_call 73; refine (nearI_c g.1[k] g.1[i] _ ⟨hek.2.1, hek.2.2.1⟩ ⟨hei.2.1, hei.2.2.1⟩).mono ?_; rintro e w4 ⟨rfl, hb4⟩; simp only [hnq]; have hb34 : Below w3.heap.size w3 w4 := Below.appR (Below.drew (Below.refl _ _)) hb4; have hbx4 := hbx3.below hb34 hlx3; have hbr4 := hbr3.below hb34 hlr3; have ho4 := hide (ho3.out.below hb34); have hz4 := hb34.size; have hB4 : Below lo w w4 := hB3.trans (hb34.mono (by omega)); clear xx0 xx1 xx2 xf0 xf1 xf2 rr0 rr1 rr2 rr3 rr4; obtain ⟨xx0, xx1, xx2, xf0, xf1, xf2⟩ := hbx4.cells; obtain ⟨rr0, rr1, rr2, rr3, rr4, -⟩ := hbr4.cells; have hlx4 := hbx4.lt; have hlr4 := hbr4.lt; clear d0 d1 d2 d3 d4 df0 df1 df2 df3 df4; obtain ⟨d0, d1, d2, d3, d4⟩ := (ho4.out.en.slAt encEnt_len).2.2.getEnt hk; simp only [Nat.zero_add] at d0 d1 d2 d3 d4; have df0 := ho4.out.en.frozen (k * 5); have df1 := ho4.out.en.frozen (k * 5 + 1); have df2 := ho4.out.en.frozen (k * 5 + 2); have df3 := ho4.out.en.frozen (k * 5 + 3); have df4 := ho4.out.en.frozen (k * 5 + 4); clear i0 i1 i2 i3 i4 if0 if1 if2 if3 if4; obtain ⟨i0, i1, i2, i3, i4⟩ := (ho4.out.en.slAt encEnt_len).2.2.getEnt hi; simp only [Nat.zero_add] at i0 i1 i2 i3 i4; have if0 := ho4.out.en.frozen (i * 5); have if1 := ho4.out.en.frozen (i * 5 + 1); have if2 := ho4.out.en.frozen (i * 5 + 2); have if3 := ho4.out.en.frozen (i * 5 + 3); have if4 := ho4.out.en.frozen (i * 5 + 4); have hgA5 := (ho4.out.en.lt gA rfl).2)
      | ((with_reducible refine wpT_noL ?_ ?_); (focus (first | exact wanted_no _ _ _ rfl rfl rfl | exact wanted_un _ _ _ rfl rfl rfl)); simp only [setO, List.set_cons_succ, List.set_cons_zero]) | ((with_reducible refine wpT_q0 ?_ ?_ ?_ ?_); (focus rfl); (focus rfl); (focus rfl); intro K hK) | ((with_reducible refine wpT_i ?_ ?_); (focus (refine ⟨_, _, _, _, _, _, _, _, rfl, rfl, rfl, rfl, rfl, ?_⟩; omega)); intro K hK) | ((with_reducible refine wpT_ncw ?_ ?_ ?_); (focus (first | exact .inl rfl | exact .inr (wanted_yes _ _ _ rfl rfl rfl))); (focus exact ⟨_, _, rfl, rfl, rfl⟩); intro K hK) | ((with_reducible refine wpT_x0 ?_ ?_ ?_); (focus rfl); (focus rfl); intro K hK) | ((with_reducible refine wpT_q1 ?_ ?_ ?_ ?_); (focus exact wanted_yes _ _ _ rfl rfl rfl); (focus rfl); (focus rfl); intro K hK) | ((with_reducible refine wpT_x1 ?_ ?_ ?_); (focus exact wanted_yes _ _ _ rfl rfl rfl); (focus rfl); intro K hK) | ((with_reducible refine wpT_nil ?_); try dsimp only)
      | fail)
    refine wp_region_T (fun _ => True) [] [] [] [0, 1, 2, 3, 4, 5, 6] (by kernel_rfl) (by kernel_rfl) (by kernel_rfl) trivial ?_; simp only [pickL, List.getElem?_cons_succ, List.getElem?_cons_zero]
    go_wp2_with (first
      | ((with_reducible refine wpT_noL ?_ ?_); (focus (first | exact wanted_no _ _ _ rfl rfl rfl | exact wanted_un _ _ _ rfl rfl rfl)); simp only [setO, List.set_cons_succ, List.set_cons_zero]) | ((with_reducible refine wpT_q0 ?_ ?_ ?_ ?_); (focus rfl); (focus rfl); (focus rfl); intro K hK) | ((with_reducible refine wpT_i ?_ ?_); (focus (refine ⟨_, _, _, _, _, _, _, _, rfl, rfl, rfl, rfl, rfl, ?_⟩; omega)); intro K hK) | ((with_reducible refine wpT_ncw ?_ ?_ ?_); (focus (first | exact .inl rfl | exact .inr (wanted_yes _ _ _ rfl rfl rfl))); (focus exact ⟨_, _, rfl, rfl, rfl⟩); intro K hK) | ((with_reducible refine wpT_x0 ?_ ?_ ?_); (focus rfl); (focus rfl); intro K hK) | ((with_reducible refine wpT_q1 ?_ ?_ ?_ ?_); (focus exact wanted_yes _ _ _ rfl rfl rfl); (focus rfl); (focus rfl); intro K hK) | ((with_reducible refine wpT_x1 ?_ ?_ ?_); (focus exact wanted_yes _ _ _ rfl rfl rfl); (focus rfl); intro K hK) | ((with_reducible refine wpT_nil ?_); try dsimp only)
      | fail)
    refine wp_region_T (fun _ => True) [] [] [] [0, 1, 2, 3, 4, 5, 6, 7, 8, 9] (by kernel_rfl) (by kernel_rfl) (by kernel_rfl) trivial ?_; simp only [pickL, List.getElem?_cons_succ, List.getElem?_cons_zero]
    go_wp2_with (first
      | ((with_reducible refine wpT_noL ?_ ?_); (focus (first | exact wanted_no _ _ _ rfl rfl rfl | exact wanted_un _ _ _ rfl rfl rfl)); simp only [setO, List.set_cons_succ, List.set_cons_zero]) | ((with_reducible refine wpT_q0 ?_ ?_ ?_ ?_); (focus rfl); (focus rfl); (focus rfl); intro K hK) | ((with_reducible refine wpT_i ?_ ?_); (focus (refine ⟨_, _, _, _, _, _, _, _, rfl, rfl, rfl, rfl, rfl, ?_⟩; omega)); intro K hK) | ((with_reducible refine wpT_ncw ?_ ?_ ?_); (focus (first | exact .inl rfl | exact .inr (wanted_yes _ _ _ rfl rfl rfl))); (focus exact ⟨_, _, rfl, rfl, rfl⟩); intro K hK) | ((with_reducible refine wpT_x0 ?_ ?_ ?_); (focus rfl); (focus rfl); intro K hK) | ((with_reducible refine wpT_q1 ?_ ?_ ?_ ?_); (focus exact wanted_yes _ _ _ rfl rfl rfl); (focus rfl); (focus rfl); intro K hK) | ((with_reducible refine wpT_x1 ?_ ?_ ?_); (focus exact wanted_yes _ _ _ rfl rfl rfl); (focus rfl); intro K hK) | ((with_reducible refine wpT_nil ?_); try dsimp only)
      | fail)
    refine wp_region_T (fun _ => True) [] [] [] [0, 1, 2, 3, 4, 5, 6, 7, 8, 9] (by kernel_rfl) (by kernel_rfl) (by kernel_rfl) trivial ?_; simp only [pickL, List.getElem?_cons_succ, List.getElem?_cons_zero]
    go_wp2_with (first
      | ((with_reducible refine wpT_noL ?_ ?_); (focus (first | exact wanted_no _ _ _ rfl rfl rfl | exact wanted_un _ _ _ rfl rfl rfl)); simp only [setO, List.set_cons_succ, List.set_cons_zero]) | ((with_reducible refine wpT_q0 ?_ ?_ ?_ ?_); (focus rfl); (focus rfl); (focus rfl); intro K hK) | ((with_reducible refine wpT_i ?_ ?_); (focus (refine ⟨_, _, _, _, _, _, _, _, rfl, rfl, rfl, rfl, rfl, ?_⟩; omega)); intro K hK) | ((with_reducible refine wpT_ncw ?_ ?_ ?_); (focus (first | exact .inl rfl | exact .inr (wanted_yes _ _ _ rfl rfl rfl))); (focus exact ⟨_, _, rfl, rfl, rfl⟩); intro K hK) | ((with_reducible refine wpT_x0 ?_ ?_ ?_); (focus rfl); (focus rfl); intro K hK) | ((with_reducible refine wpT_q1 ?_ ?_ ?_ ?_); (focus exact wanted_yes _ _ _ rfl rfl rfl); (focus rfl); (focus rfl); intro K hK) | ((with_reducible refine wpT_x1 ?_ ?_ ?_); (focus exact wanted_yes _ _ _ rfl rfl rfl); (focus rfl); intro K hK) | ((with_reducible refine wpT_nil ?_); try dsimp only)
      | fail)
    go_ret
    rw [hh.out]
    have hp1 := ho4.out.putE hk (entG g.1[k] (- r.2.2.2.2)) 4 (by omega) (.int .i64 (g.1[k].2.2.2.2 - r.2.2.2.2)) rfl
    have hp2 := hp1.putE (k := i) (by simpa using hi) (entG g.1[i] r.2.2.2.2) 4 (by omega) (.int .i64 (g.1[i].2.2.2.2 + r.2.2.2.2)) (by simp only [List.getElem_set_ne hki4]; rfl)
    dsimp only at hp2
    rw [List.set_comm _ _ hki4] at hp2
    have hb9 := (hbx4.keep (ne_set (i := k * 5 + 4) (.int .i64 (g.1[k].2.2.2.2 - r.2.2.2.2)) (Ne.symm hAx))).keep (ne_set (i := i * 5 + 4) (.int .i64 (g.1[i].2.2.2.2 + r.2.2.2.2)) (Ne.symm hAx))
    have hP : ActPost bx lo gB gE w (((g.1.set i (entG g.1[i] r.2.2.2.2)).set k (entG g.1[k] (- r.2.2.2.2)), g.2.1, g.2.2), 0) (.returned (.int .i64 0)) ((w4.setCell ⟨gA, k * 5 + 4, none⟩ (.int .i64 (g.1[k].2.2.2.2 - r.2.2.2.2))).setCell ⟨gA, i * 5 + 4, none⟩ (.int .i64 (g.1[i].2.2.2.2 + r.2.2.2.2))) :=
      ⟨some ⟨gA, 0, none⟩, n, rfl, hb9, hp2, hnA'.out, (hB4.setCell (p := ⟨gA, k * 5 + 4, none⟩) hgA1 _).setCell (p := ⟨gA, i * 5 + 4, none⟩) hgA1 _⟩
    (repeat (first | exact hP | refine ActPost.dr ?_))
  · have hh := hide (show behG g r = (g, 7) by rw [hact.out, if_pos (by simpa using e2)])
    clear hne1
    go_enter Tryd.func44, Tryd.ntmps44
    go_wp2
    generalize w.alloc (.cells #[.int .i64 r.1, .int .i64 r.2.1, .int .i64 r.2.2.1, .int .i64 r.2.2.2.1, .int .i64 r.2.2.2.2] 37) = w1 at *
    refine wp_region_T (fun _ => True) [] [] [] [0, 1, 2, 3, 4, 5, 6] (by kernel_rfl) (by kernel_rfl) (by kernel_rfl) trivial ?_; simp only [pickL, List.getElem?_cons_succ, List.getElem?_cons_zero]
    go_wp2_with (first
      | (go_at_call 70; refine (figure_some _ n n (some ⟨gB, 0, none⟩) 16 16 (some ⟨gE, 0, none⟩) 4 4 lo w1.heap.size r.1 g.1 w1.drew (show RdN 5 (flatR encEnt) w1.drew lo w1.heap.size _ n n g.1 from Own.rdn (w := w1.drew) encEnt_len ho1.out.en.drew) (Nat.le_refl _) k hfi).mono ?_; rintro e w2 ⟨rfl, hb2⟩; have hb12 : Below w1.heap.size w1 w2 := Below.appR (Below.drew (Below.refl _ _)) hb2; have hbx2 := hbx1.below hb12 hlx; have hbr2 := hbr1.below hb12 hlr; have ho2 := hide (ho1.out.below hb12); have hz2 := hb12.size; have hB2 : Below lo w w2 := (hA1.mono (by omega)).trans (hb12.mono (by omega)); clear xx0 xx1 xx2 xf0 xf1 xf2 rr0 rr1 rr2 rr3 rr4; obtain ⟨xx0, xx1, xx2, xf0, xf1, xf2⟩ := hbx2.cells; obtain ⟨rr0, rr1, rr2, rr3, rr4, -⟩ := hbr2.cells; have hlx2 := hbx2.lt; have hlr2 := hbr2.lt)
      | ((with_reducible refine wpT_noL ?_ ?_); (focus (first | exact wanted_no _ _ _ rfl rfl rfl | exact wanted_un _ _ _ rfl rfl rfl)); simp only [setO, List.set_cons_succ, List.set_cons_zero]) | ((with_reducible refine wpT_q0 ?_ ?_ ?_ ?_); (focus rfl); (focus rfl); (focus rfl); intro K hK) | ((with_reducible refine wpT_i ?_ ?_); (focus (refine ⟨_, _, _, _, _, _, _, _, rfl, rfl, rfl, rfl, rfl, ?_⟩; omega)); intro K hK) | ((with_reducible refine wpT_ncw ?_ ?_ ?_); (focus (first | exact .inl rfl | exact .inr (wanted_yes _ _ _ rfl rfl rfl))); (focus exact ⟨_, _, rfl, rfl, rfl⟩); intro K hK) | ((with_reducible refine wpT_x0 ?_ ?_ ?_); (focus rfl); (focus rfl); intro K hK) | ((with_reducible refine wpT_q1 ?_ ?_ ?_ ?_); (focus exact wanted_yes _ _ _ rfl rfl rfl); (focus rfl); (focus rfl); intro K hK) | ((with_reducible refine wpT_x1 ?_ ?_ ?_); (focus exact wanted_yes _ _ _ rfl rfl rfl); (focus rfl); intro K hK) | ((with_reducible refine wpT_nil ?_); try dsimp only)
      | fail)
    obtain ⟨d0, d1, d2, d3, d4⟩ := (ho2.out.en.slAt encEnt_len).2.2.getEnt hk
    simp only [Nat.zero_add] at d0 d1 d2 d3 d4
    have df0 := ho2.out.en.frozen (k * 5)
    have df1 := ho2.out.en.frozen (k * 5 + 1)
    have df2 := ho2.out.en.frozen (k * 5 + 2)
    have df3 := ho2.out.en.frozen (k * 5 + 3)
    have df4 := ho2.out.en.frozen (k * 5 + 4)
    have hgA3 := (ho2.out.en.lt gA rfl).2
    go_wp2
    refine wp_region_T (fun _ => True) [] [] [] [0, 1, 2, 3, 4, 5, 6] (by kernel_rfl) (by kernel_rfl) (by kernel_rfl) trivial ?_; simp only [pickL, List.getElem?_cons_succ, List.getElem?_cons_zero]
    go_wp2_with (first
      | (go_at_call 70; refine (figure_some (some ⟨gA, 0, none⟩) n n (some ⟨gB, 0, none⟩) 16 16 (some ⟨gE, 0, none⟩) 4 4 lo w2.heap.size r.2.2.2.1 g.1 w2.drew (show RdN 5 (flatR encEnt) w2.drew lo w2.heap.size (some ⟨gA, 0, none⟩) n n g.1 from Own.rdn (w := w2.drew) encEnt_len ho2.out.en.drew) (Nat.le_refl _) i hfj).mono ?_; rintro e w3 ⟨rfl, hb3⟩; have hb23 : Below w2.heap.size w2 w3 := Below.appR (Below.drew (Below.refl _ _)) hb3; have hbx3 := hbx2.below hb23 hlx2; have hbr3 := hbr2.below hb23 hlr2; have ho3 := hide (ho2.out.below hb23); have hz3 := hb23.size; have hB3 : Below lo w w3 := hB2.trans (hb23.mono (by omega)); clear xx0 xx1 xx2 xf0 xf1 xf2 rr0 rr1 rr2 rr3 rr4; obtain ⟨xx0, xx1, xx2, xf0, xf1, xf2⟩ := hbx3.cells; obtain ⟨rr0, rr1, rr2, rr3, rr4, -⟩ := hbr3.cells; have hlx3 := hbx3.lt; have hlr3 := hbr3.lt; clear d0 d1 d2 d3 d4 df0 df1 df2 df3 df4; obtain ⟨d0, d1, d2, d3, d4⟩ := (ho3.out.en.slAt encEnt_len).2.2.getEnt hk; simp only [Nat.zero_add] at d0 d1 d2 d3 d4; have df0 := ho3.out.en.frozen (k * 5); have df1 := ho3.out.en.frozen (k * 5 + 1); have df2 := ho3.out.en.frozen (k * 5 + 2); have df3 := ho3.out.en.frozen (k * 5 + 3); have df4 := ho3.out.en.frozen (k * 5 + 4); have hgA4 := (ho3.out.en.lt gA rfl).2)
      | ((with_reducible refine wpT_noL ?_ ?_); (focus (first | exact wanted_no _ _ _ rfl rfl rfl | exact wanted_un _ _ _ rfl rfl rfl)); simp only [setO, List.set_cons_succ, List.set_cons_zero]) | ((with_reducible refine wpT_q0 ?_ ?_ ?_ ?_); (focus rfl); (focus rfl); (focus rfl); intro K hK) | ((with_reducible refine wpT_i ?_ ?_); (focus (refine ⟨_, _, _, _, _, _, _, _, rfl, rfl, rfl, rfl, rfl, ?_⟩; omega)); intro K hK) | ((with_reducible refine wpT_ncw ?_ ?_ ?_); (focus (first | exact .inl rfl | exact .inr (wanted_yes _ _ _ rfl rfl rfl))); (focus exact ⟨_, _, rfl, rfl, rfl⟩); intro K hK) | ((with_reducible refine wpT_x0 ?_ ?_ ?_); (focus rfl); (focus rfl); intro K hK) | ((with_reducible refine wpT_q1 ?_ ?_ ?_ ?_); (focus exact wanted_yes _ _ _ rfl rfl rfl); (focus rfl); (focus rfl); intro K hK) | ((with_reducible refine wpT_x1 ?_ ?_ ?_); (focus exact wanted_yes _ _ _ rfl rfl rfl); (focus rfl); intro K hK) | ((with_reducible refine wpT_nil ?_); try dsimp only)
      | fail)
    obtain ⟨i0, i1, i2, i3, i4⟩ := (ho3.out.en.slAt encEnt_len).2.2.getEnt hi
    simp only [Nat.zero_add] at i0 i1 i2 i3 i4
    have if0 := ho3.out.en.frozen (i * 5)
    have if1 := ho3.out.en.frozen (i * 5 + 1)
    have if2 := ho3.out.en.frozen (i * 5 + 2)
    have if3 := ho3.out.en.frozen (i * 5 + 3)
    have if4 := ho3.out.en.frozen (i * 5 + 4)
    refine wp_region_T (fun _ => True) [] [] [] [0, 1, 2, 3, 4, 5, 6, 7, 8, 9, 10, 11, 12, 13, 14, 15, 16, 17, 18, 19, 20] (by kernel_rfl) (by kernel_rfl) (by kernel_rfl) trivial ?_; simp only [pickL, List.getElem?_cons_succ, List.getElem?_cons_zero]
    go_wp2_with (first
      | (go_at_call 73; refine (nearI_c g.1[k] g.1[i] _ ⟨hek.2.1, hek.2.2.1⟩ ⟨hei.2.1, hei.2.2.1⟩).mono ?_; rintro e w4 ⟨rfl, hb4⟩; simp only [hnq]; have hb34 : Below w3.heap.size w3 w4 := Below.appR (Below.drew (Below.refl _ _)) hb4; have hbx4 := hbx3.below hb34 hlx3; have hbr4 := hbr3.below hb34 hlr3; have ho4 := hide (ho3.out.below hb34); have hz4 := hb34.size; have hB4 : Below lo w w4 := hB3.trans (hb34.mono (by omega)); clear xx0 xx1 xx2 xf0 xf1 xf2 rr0 rr1 rr2 rr3 rr4; obtain ⟨xx0, xx1, xx2, xf0, xf1, xf2⟩ := hbx4.cells; obtain ⟨rr0, rr1, rr2, rr3, rr4, -⟩ := hbr4.cells; have hlx4 := hbx4.lt; have hlr4 := hbr4.lt; clear d0 d1 d2 d3 d4 df0 df1 df2 df3 df4; obtain ⟨d0, d1, d2, d3, d4⟩ := (ho4.out.en.slAt encEnt_len).2.2.getEnt hk; simp only [Nat.zero_add] at d0 d1 d2 d3 d4; have df0 := ho4.out.en.frozen (k * 5); have df1 := ho4.out.en.frozen (k * 5 + 1); have df2 := ho4.out.en.frozen (k * 5 + 2); have df3 := ho4.out.en.frozen (k * 5 + 3); have df4 := ho4.out.en.frozen (k * 5 + 4); clear i0 i1 i2 i3 i4 if0 if1 if2 if3 if4; obtain ⟨i0, i1, i2, i3, i4⟩ := (ho4.out.en.slAt encEnt_len).2.2.getEnt hi; simp only [Nat.zero_add] at i0 i1 i2 i3 i4; have if0 := ho4.out.en.frozen (i * 5); have if1 := ho4.out.en.frozen (i * 5 + 1); have if2 := ho4.out.en.frozen (i * 5 + 2); have if3 := ho4.out.en.frozen (i * 5 + 3); have if4 := ho4.out.en.frozen (i * 5 + 4); have hgA5 := (ho4.out.en.lt gA rfl).2)
      | ((with_reducible refine wpT_noL ?_ ?_); (focus (first | exact wanted_no _ _ _ rfl rfl rfl | exact wanted_un _ _ _ rfl rfl rfl)); simp only [setO, List.set_cons_succ, List.set_cons_zero]) | ((with_reducible refine wpT_q0 ?_ ?_ ?_ ?_); (focus rfl); (focus rfl); (focus rfl); intro K hK) | ((with_reducible refine wpT_i ?_ ?_); (focus (refine ⟨_, _, _, _, _, _, _, _, rfl, rfl, rfl, rfl, rfl, ?_⟩; omega)); intro K hK) | ((with_reducible refine wpT_ncw ?_ ?_ ?_); (focus (first | exact .inl rfl | exact .inr (wanted_yes _ _ _ rfl rfl rfl))); (focus exact ⟨_, _, rfl, rfl, rfl⟩); intro K hK) | ((with_reducible refine wpT_x0 ?_ ?_ ?_); (focus rfl); (focus rfl); intro K hK) | ((with_reducible refine wpT_q1 ?_ ?_ ?_ ?_); (focus exact wanted_yes _ _ _ rfl rfl rfl); (focus rfl); (focus rfl); intro K hK) | ((with_reducible refine wpT_x1 ?_ ?_ ?_); (focus exact wanted_yes _ _ _ rfl rfl rfl); (focus rfl); intro K hK) | ((with_reducible refine wpT_nil ?_); try dsimp only)
      | fail)
    refine wp_region_T (fun _ => True) [] [] [] [0, 1, 2, 3, 4, 5, 6] (by kernel_rfl) (by kernel_rfl) (by kernel_rfl) trivial ?_; simp only [pickL, List.getElem?_cons_succ, List.getElem?_cons_zero]
    go_wp2_with (first
      | ((with_reducible refine wpT_noL ?_ ?_); (focus (first | exact wanted_no _ _ _ rfl rfl rfl | exact wanted_un _ _ _ rfl rfl rfl)); simp only [setO, List.set_cons_succ, List.set_cons_zero]) | ((with_reducible refine wpT_q0 ?_ ?_ ?_ ?_); (focus rfl); (focus rfl); (focus rfl); intro K hK) | ((with_reducible refine wpT_i ?_ ?_); (focus (refine ⟨_, _, _, _, _, _, _, _, rfl, rfl, rfl, rfl, rfl, ?_⟩; omega)); intro K hK) | ((with_reducible refine wpT_ncw ?_ ?_ ?_); (focus (first | exact .inl rfl | exact .inr (wanted_yes _ _ _ rfl rfl rfl))); (focus exact ⟨_, _, rfl, rfl, rfl⟩); intro K hK) | ((with_reducible refine wpT_x0 ?_ ?_ ?_); (focus rfl); (focus rfl); intro K hK) | ((with_reducible refine wpT_q1 ?_ ?_ ?_ ?_); (focus exact wanted_yes _ _ _ rfl rfl rfl); (focus rfl); (focus rfl); intro K hK) | ((with_reducible refine wpT_x1 ?_ ?_ ?_); (focus exact wanted_yes _ _ _ rfl rfl rfl); (focus rfl); intro K hK) | ((with_reducible refine wpT_nil ?_); try dsimp only)
      | fail)
    go_ret
    rw [hh.out]
    have hP := ActPost.same 7 hbx4 ho4.out hnA'.out hB4
    (repeat (first | exact hP | refine ActPost.dr ?_))
end Go.Proofs.YtajmfonepnkofaaDoor
namespace Go.Proofs.YtajmfonepnkofaaDoor
open Go.RowKit Rg
set_option linter.unusedVariables false
set_option linter.unusedSimpArgs false


set_option maxRecDepth 100000 in
set_option maxHeartbeats 2000000 in
theorem actHit (bx lo gB gE : Nat) (A : Option Addr) (n : Nat) (g : GameT) (r : AskT) (w : World) (hbx : Bx3 w bx (.slice A n n) (.slice (some ⟨gB, 0, none⟩) 16 16) (.slice (some ⟨gE, 0, none⟩) 4 4) 35) (ho : GmO w lo A n n (some ⟨gB, 0, none⟩) 16 16 (some ⟨gE, 0, none⟩) 4 4 g)
    (hlo : lo ≤ bx) (hnA : ∀ k, (Value.slice A n n).ownBlock = some k → k ≠ bx) (hnB : gB ≠ bx) (hnE : gE ≠ bx) (hok : okG' g) (hr : okA r) (k : Nat) (hfi : figI g.1 r.1 = some k) (hop : r.2.2.1 = 4) (i : Nat) (hfj : figI g.1 r.2.2.2.1 = some i) (hik : ¬ i = k) (hnear : ∀ (hk : k < g.1.length) (hi : i < g.1.length), nearE g.1[k] g.1[i]) :
    Calls Tryd.prog 44 #[.pointer (some ⟨bx, 0, none⟩), .agg #[.int .i64 r.1, .int .i64 r.2.1, .int .i64 r.2.2.1, .int .i64 r.2.2.2.1, .int .i64 r.2.2.2.2]] w fun e w' => ActPost bx lo gB gE w (behG g r) e w' := by
  have hA1 := (Below.refl w.heap.size w).alloc (Nat.le_refl _) (.cells #[.int .i64 r.1, .int .i64 r.2.1, .int .i64 r.2.2.1, .int .i64 r.2.2.2.1, .int .i64 r.2.2.2.2] 37)
  have hbr1 := Bx5.made w r 37
  have hbx1 := hbx.below hA1 hbx.lt
  have ho1 := hide (ho.below hA1)
  have hz1 : w.heap.size + 1 ≤ (w.alloc (.cells #[.int .i64 r.1, .int .i64 r.2.1, .int .i64 r.2.2.1, .int .i64 r.2.2.2.1, .int .i64 r.2.2.2.2] 37)).heap.size := by simp only [World.size_alloc]; omega
  have hbl := hbx.lt
  obtain ⟨xx0, xx1, xx2, xf0, xf1, xf2⟩ := hbx1.cells
  obtain ⟨rr0, rr1, rr2, rr3, rr4, -⟩ := hbr1.cells
  have hlx := hbx1.lt
  have hlr := hbr1.lt
  have hn' := hide ho.en.lenEq
  have hn4 : n ≤ 4 := by
    have h3 := inc_len hok.inc (fun e he => (hok.ent e he).1)
    have := hn'.out
    omega
  have hok' := hide hok
  have hrH := hide hr
  have hnA' := hide hnA
  have hoH := hide ho
  clear hok hr ho hbx hnA
  have hq1 : (r.2.2.1 == 1) = false := by simp <;> omega
  have hq2 : (r.2.2.1 == 2) = false := by simp <;> omega
  have hq3 : (r.2.2.1 == 3) = false := by simp <;> omega
  have hbe := hide (behG_act hfi (show r.2.2.1 ≠ 1 by omega))
  have hik' : (((i : Nat) : Int) == ((k : Nat) : Int)) = false := by simp <;> omega
  have hikh := hide hik
  have hk := figI_lt hfi
  have hkn : k < n := by have := hn'.out; omega
  obtain ⟨gA, rfl, hgA1, hgA2⟩ := ho1.out.en.addrAt (show 0 < n by omega)
  have hAx : gA ≠ bx := hnA'.out gA rfl
  obtain ⟨hAB, hAE, hBE⟩ := ho1.out.sep
  have hAw := (hoH.out.en.lt gA rfl).2
  have hBw := (hoH.out.fl.lt gB rfl).2
  have hAw1 : ¬ w.heap.size = gA := by omega
  have hAw2 : ¬ gA = w.heap.size := by omega
  have hBw1 : ¬ w.heap.size = gB := by omega
  have hBw2 : ¬ gB = w.heap.size := by omega
  have hek := (okG'.full hok'.out).ent _ (List.getElem_mem hk)
  unfold entOk rng at hek
  have hk0 : decide ((k : Int) < 0) = false := by simp <;> omega
  have hi := figI_lt hfj
  have hin : i < n := by have := hn'.out; omega
  have hei := (okG'.full hok'.out).ent _ (List.getElem_mem hi)
  unfold entOk rng at hei
  have hi0 : decide ((i : Int) < 0) = false := by simp <;> omega
  have hact := hide (show behG g r = if g.1[i].2.2.2.1 - 1 ≤ 0 then ((g.1.eraseIdx i, g.2.1.set (sqr g.1[i]) (g.2.1.getD (sqr g.1[i]) 0 + g.1[i].2.2.2.2), g.2.2), 0) else ((g.1.set i (hitE g.1[i]), g.2.1, g.2.2), 0) by rw [hbe.out, actG_some k (by omega) (by omega) hfj]; exact other_hit hk hi hik (hnear hk hi) (by omega))
  have hnq : decide (nearE g.1[k] g.1[i]) = true := by simpa using hnear hk hi
  have hq5 : (r.2.2.1 == 5) = false := by simp <;> omega
  clear hop hik hnear
  cases e2 : decide (g.1[i].2.2.2.1 - 1 ≤ 0)
  · have hh := hide (show behG g r = ((g.1.set i (hitE g.1[i]), g.2.1, g.2.2), 0) by rw [hact.out, if_neg (by simpa using e2)])
    go_enter Tryd.func44, Tryd.ntmps44
    go_wp2
    generalize w.alloc (.cells #[.int .i64 r.1, .int .i64 r.2.1, .int .i64 r.2.2.1, .int .i64 r.2.2.2.1, .int .i64 r.2.2.2.2] 37) = w1 at *
    refine wp_region_T (fun _ => True) [] [] [] [0, 1, 2, 3, 4, 5, 6] (by kernel_rfl) (by kernel_rfl) (by kernel_rfl) trivial ?_; simp only [pickL, List.getElem?_cons_succ, List.getElem?_cons_zero]
    go_wp2_with (first
      | (go_at_call 70; refine (figure_some _ n n (some ⟨gB, 0, none⟩) 16 16 (some ⟨gE, 0, none⟩) 4 4 lo w1.heap.size r.1 g.1 w1.drew (show RdN 5 (flatR encEnt) w1.drew lo w1.heap.size _ n n g.1 from Own.rdn (w := w1.drew) encEnt_len ho1.out.en.drew) (Nat.le_refl _) k hfi).mono ?_; rintro e w2 ⟨rfl, hb2⟩; have hb12 : Below w1.heap.size w1 w2 := Below.appR (Below.drew (Below.refl _ _)) hb2; have hbx2 := hbx1.below hb12 hlx; have hbr2 := hbr1.below hb12 hlr; have ho2 := hide (ho1.out.below hb12); have hz2 := hb12.size; have hB2 : Below lo w w2 := (hA1.mono (by omega)).trans (hb12.mono (by omega)); clear xx0 xx1 xx2 xf0 xf1 xf2 rr0 rr1 rr2 rr3 rr4; obtain ⟨xx0, xx1, xx2, xf0, xf1, xf2⟩ := hbx2.cells; obtain ⟨rr0, rr1, rr2, rr3, rr4, -⟩ := hbr2.cells; have hlx2 := hbx2.lt; have hlr2 := hbr2.lt)
      | ((with_reducible refine wpT_noL ?_ ?_); (focus (first | exact wanted_no _ _ _ rfl rfl rfl | exact wanted_un _ _ _ rfl rfl rfl)); simp only [setO, List.set_cons_succ, List.set_cons_zero]) | ((with_reducible refine wpT_q0 ?_ ?_ ?_ ?_); (focus rfl); (focus rfl); (focus rfl); intro K hK) | ((with_reducible refine wpT_i ?_ ?_); (focus (refine ⟨_, _, _, _, _, _, _, _, rfl, rfl, rfl, rfl, rfl, ?_⟩; omega)); intro K hK) | ((with_reducible refine wpT_ncw ?_ ?_ ?_); (focus (first | exact .inl rfl | exact .inr (wanted_yes _ _ _ rfl rfl rfl))); (focus exact ⟨_, _, rfl, rfl, rfl⟩); intro K hK) | ((with_reducible refine wpT_x0 ?_ ?_ ?_); (focus rfl); (focus rfl); intro K hK) | ((with_reducible refine wpT_q1 ?_ ?_ ?_ ?_); (focus exact wanted_yes _ _ _ rfl rfl rfl); (focus rfl); (focus rfl); intro K hK) | ((with_reducible refine wpT_x1 ?_ ?_ ?_); (focus exact wanted_yes _ _ _ rfl rfl rfl); (focus rfl); intro K hK) | ((with_reducible refine wpT_nil ?_); try dsimp only)
      | fail)
    obtain ⟨d0, d1, d2, d3, d4⟩ := (ho2.out.en.slAt encEnt_len).2.2.getEnt hk
    simp only [Nat.zero_add] at d0 d1 d2 d3 d4
    have df0 := ho2.out.en.frozen (k * 5)
    have df1 := ho2.out.en.frozen (k * 5 + 1)
    have df2 := ho2.out.en.frozen (k * 5 + 2)
    have df3 := ho2.out.en.frozen (k * 5 + 3)
    have df4 := ho2.out.en.frozen (k * 5 + 4)
    have hgA3 := (ho2.out.en.lt gA rfl).2
    go_wp2
    refine wp_region_T (fun _ => True) [] [] [] [0, 1, 2, 3, 4, 5, 6] (by kernel_rfl) (by kernel_rfl) (by kernel_rfl) trivial ?_; simp only [pickL, List.getElem?_cons_succ, List.getElem?_cons_zero]
    go_wp2_with (first
      | (go_at_call 70; refine (figure_some (some ⟨gA, 0, none⟩) n n (some ⟨gB, 0, none⟩) 16 16 (some ⟨gE, 0, none⟩) 4 4 lo w2.heap.size r.2.2.2.1 g.1 w2.drew (show RdN 5 (flatR encEnt) w2.drew lo w2.heap.size (some ⟨gA, 0, none⟩) n n g.1 from Own.rdn (w := w2.drew) encEnt_len ho2.out.en.drew) (Nat.le_refl _) i hfj).mono ?_; rintro e w3 ⟨rfl, hb3⟩; have hb23 : Below w2.heap.size w2 w3 := Below.appR (Below.drew (Below.refl _ _)) hb3; have hbx3 := hbx2.below hb23 hlx2; have hbr3 := hbr2.below hb23 hlr2; have ho3 := hide (ho2.out.below hb23); have hz3 := hb23.size; have hB3 : Below lo w w3 := hB2.trans (hb23.mono (by omega)); clear xx0 xx1 xx2 xf0 xf1 xf2 rr0 rr1 rr2 rr3 rr4; obtain ⟨xx0, xx1, xx2, xf0, xf1, xf2⟩ := hbx3.cells; obtain ⟨rr0, rr1, rr2, rr3, rr4, -⟩ := hbr3.cells; have hlx3 := hbx3.lt; have hlr3 := hbr3.lt; clear d0 d1 d2 d3 d4 df0 df1 df2 df3 df4; obtain ⟨d0, d1, d2, d3, d4⟩ := (ho3.out.en.slAt encEnt_len).2.2.getEnt hk; simp only [Nat.zero_add] at d0 d1 d2 d3 d4; have df0 := ho3.out.en.frozen (k * 5); have df1 := ho3.out.en.frozen (k * 5 + 1); have df2 := ho3.out.en.frozen (k * 5 + 2); have df3 := ho3.out.en.frozen (k * 5 + 3); have df4 := ho3.out.en.frozen (k * 5 + 4); have hgA4 := (ho3.out.en.lt gA rfl).2)
      | ((with_reducible refine wpT_noL ?_ ?_); (focus (first | exact wanted_no _ _ _ rfl rfl rfl | exact wanted_un _ _ _ rfl rfl rfl)); simp only [setO, List.set_cons_succ, List.set_cons_zero]) | ((with_reducible refine wpT_q0 ?_ ?_ ?_ ?_); (focus rfl); (focus rfl); (focus rfl); intro K hK) | ((with_reducible refine wpT_i ?_ ?_); (focus (refine ⟨_, _, _, _, _, _, _, _, rfl, rfl, rfl, rfl, rfl, ?_⟩; omega)); intro K hK) | ((with_reducible refine wpT_ncw ?_ ?_ ?_); (focus (first | exact .inl rfl | exact .inr (wanted_yes _ _ _ rfl rfl rfl))); (focus exact ⟨_, _, rfl, rfl, rfl⟩); intro K hK) | ((with_reducible refine wpT_x0 ?_ ?_ ?_); (focus rfl); (focus rfl); intro K hK) | ((with_reducible refine wpT_q1 ?_ ?_ ?_ ?_); (focus exact wanted_yes _ _ _ rfl rfl rfl); (focus rfl); (focus rfl); intro K hK) | ((with_reducible refine wpT_x1 ?_ ?_ ?_); (focus exact wanted_yes _ _ _ rfl rfl rfl); (focus rfl); intro K hK) | ((with_reducible refine wpT_nil ?_); try dsimp only)
      | fail)
    obtain ⟨i0, i1, i2, i3, i4⟩ := (ho3.out.en.slAt encEnt_len).2.2.getEnt hi
    simp only [Nat.zero_add] at i0 i1 i2 i3 i4
    have if0 := ho3.out.en.frozen (i * 5)
    have if1 := ho3.out.en.frozen (i * 5 + 1)
    have if2 := ho3.out.en.frozen (i * 5 + 2)
    have if3 := ho3.out.en.frozen (i * 5 + 3)
    have if4 := ho3.out.en.frozen (i * 5 + 4)
    refine wp_region_T (fun _ => True) [] [] [] [0, 1, 2, 3, 4, 5, 6, 7, 8, 9, 10, 11, 12, 13, 14, 15, 16, 17, 18, 19, 20] (by kernel_rfl) (by kernel_rfl) (by kernel_rfl) trivial ?_; simp only [pickL, List.getElem?_cons_succ, List.getElem?_cons_zero]
    go_wp2_with (first
      | (go_at_call 73; refine (nearI_c g.1[k] g.1[i] _ ⟨hek.2.1, hek.2.2.1⟩ ⟨hei.2.1, hei.2.2.1⟩).mono ?_; rintro e w4 ⟨rfl, hb4⟩; simp only [hnq]; have hb34 : Below w3.heap.size w3 w4 := Below.appR (Below.drew (Below.refl _ _)) hb4; have hbx4 := hbx3.below hb34 hlx3; have hbr4 := hbr3.below hb34 hlr3; have ho4 := hide (ho3.out.below hb34); have hz4 := hb34.size; have hB4 : Below lo w w4 := hB3.trans (hb34.mono (by omega)); clear xx0 xx1 xx2 xf0 xf1 xf2 rr0 rr1 rr2 rr3 rr4; obtain ⟨xx0, xx1, xx2, xf0, xf1, xf2⟩ := hbx4.cells; obtain ⟨rr0, rr1, rr2, rr3, rr4, -⟩ := hbr4.cells; have hlx4 := hbx4.lt; have hlr4 := hbr4.lt; clear d0 d1 d2 d3 d4 df0 df1 df2 df3 df4; obtain ⟨d0, d1, d2, d3, d4⟩ := (ho4.out.en.slAt encEnt_len).2.2.getEnt hk; simp only [Nat.zero_add] at d0 d1 d2 d3 d4; have df0 := ho4.out.en.frozen (k * 5); have df1 := ho4.out.en.frozen (k * 5 + 1); have df2 := ho4.out.en.frozen (k * 5 + 2); have df3 := ho4.out.en.frozen (k * 5 + 3); have df4 := ho4.out.en.frozen (k * 5 + 4); clear i0 i1 i2 i3 i4 if0 if1 if2 if3 if4; obtain ⟨i0, i1, i2, i3, i4⟩ := (ho4.out.en.slAt encEnt_len).2.2.getEnt hi; simp only [Nat.zero_add] at i0 i1 i2 i3 i4; have if0 := ho4.out.en.frozen (i * 5); have if1 := ho4.out.en.frozen (i * 5 + 1); have if2 := ho4.out.en.frozen (i * 5 + 2); have if3 := ho4.out.en.frozen (i * 5 + 3); have if4 := ho4.out.en.frozen (i * 5 + 4); have hgA5 := (ho4.out.en.lt gA rfl).2)
      | ((with_reducible refine wpT_noL ?_ ?_); (focus (first | exact wanted_no _ _ _ rfl rfl rfl | exact wanted_un _ _ _ rfl rfl rfl)); simp only [setO, List.set_cons_succ, List.set_cons_zero]) | ((with_reducible refine wpT_q0 ?_ ?_ ?_ ?_); (focus rfl); (focus rfl); (focus rfl); intro K hK) | ((with_reducible refine wpT_i ?_ ?_); (focus (refine ⟨_, _, _, _, _, _, _, _, rfl, rfl, rfl, rfl, rfl, ?_⟩; omega)); intro K hK) | ((with_reducible refine wpT_ncw ?_ ?_ ?_); (focus (first | exact .inl rfl | exact .inr (wanted_yes _ _ _ rfl rfl rfl))); (focus exact ⟨_, _, rfl, rfl, rfl⟩); intro K hK) | ((with_reducible refine wpT_x0 ?_ ?_ ?_); (focus rfl); (focus rfl); intro K hK) | ((with_reducible refine wpT_q1 ?_ ?_ ?_ ?_); (focus exact wanted_yes _ _ _ rfl rfl rfl); (focus rfl); (focus rfl); intro K hK) | ((with_reducible refine wpT_x1 ?_ ?_ ?_); (focus exact wanted_yes _ _ _ rfl rfl rfl); (focus rfl); intro K hK) | ((with_reducible refine wpT_nil ?_); try dsimp only)
      | fail)
    go_ret
    rw [hh.out]
    have hp3 := ho4.out.putE hi (hitE g.1[i]) 3 (by omega) (.int .i64 (g.1[i].2.2.2.1 - 1)) rfl
    have hP : ActPost bx lo gB gE w ((g.1.set i (hitE g.1[i]), g.2.1, g.2.2), 0) (.returned (.int .i64 0)) (w4.setCell ⟨gA, i * 5 + 3, none⟩ (.int .i64 (g.1[i].2.2.2.1 - 1))) :=
      ⟨some ⟨gA, 0, none⟩, n, rfl, hbx4.keep (ne_set _ (Ne.symm hAx)), hp3, hnA'.out, hB4.setCell (p := ⟨gA, i * 5 + 3, none⟩) hgA1 _⟩
    (repeat (first | exact hP | refine ActPost.dr ?_))
  · obtain ⟨sq, hsq⟩ : ∃ s, s = sqr g.1[i] := ⟨_, rfl⟩
    have hsqe := hide (show sqr (hitE g.1[i]) = sq from hsq.symm)
    have hsl : sq < g.2.1.length := by have h16 := hok'.out.n16; rw [hsq]; unfold sqr; omega
    have hfl : 0 ≤ g.2.1[sq] ∧ g.2.1[sq] ≤ 20 := (okG'.full hok'.out).flo _ (List.getElem_mem hsl)
    have hh := hide (show behG g r = ((g.1.eraseIdx i, g.2.1.set sq (g.2.1[sq] + g.1[i].2.2.2.2), g.2.2), 0) by rw [hact.out, if_pos (by simpa using e2), ← hsq, getD_at hsl])
    clear hsq
    go_enter Tryd.func44, Tryd.ntmps44
    go_wp2
    generalize w.alloc (.cells #[.int .i64 r.1, .int .i64 r.2.1, .int .i64 r.2.2.1, .int .i64 r.2.2.2.1, .int .i64 r.2.2.2.2] 37) = w1 at *
    refine wp_region_T (fun _ => True) [] [] [] [0, 1, 2, 3, 4, 5, 6] (by kernel_rfl) (by kernel_rfl) (by kernel_rfl) trivial ?_; simp only [pickL, List.getElem?_cons_succ, List.getElem?_cons_zero]
    go_wp2_with (first
      | (go_at_call 70; refine (figure_some _ n n (some ⟨gB, 0, none⟩) 16 16 (some ⟨gE, 0, none⟩) 4 4 lo w1.heap.size r.1 g.1 w1.drew (show RdN 5 (flatR encEnt) w1.drew lo w1.heap.size _ n n g.1 from Own.rdn (w := w1.drew) encEnt_len ho1.out.en.drew) (Nat.le_refl _) k hfi).mono ?_; rintro e w2 ⟨rfl, hb2⟩; have hb12 : Below w1.heap.size w1 w2 := Below.appR (Below.drew (Below.refl _ _)) hb2; have hbx2 := hbx1.below hb12 hlx; have hbr2 := hbr1.below hb12 hlr; have ho2 := hide (ho1.out.below hb12); have hz2 := hb12.size; have hB2 : Below lo w w2 := (hA1.mono (by omega)).trans (hb12.mono (by omega)); clear xx0 xx1 xx2 xf0 xf1 xf2 rr0 rr1 rr2 rr3 rr4; obtain ⟨xx0, xx1, xx2, xf0, xf1, xf2⟩ := hbx2.cells; obtain ⟨rr0, rr1, rr2, rr3, rr4, -⟩ := hbr2.cells; have hlx2 := hbx2.lt; have hlr2 := hbr2.lt)
      | ((with_reducible refine wpT_noL ?_ ?_); (focus (first | exact wanted_no _ _ _ rfl rfl rfl | exact wanted_un _ _ _ rfl rfl rfl)); simp only [setO, List.set_cons_succ, List.set_cons_zero]) | ((with_reducible refine wpT_q0 ?_ ?_ ?_ ?_); (focus rfl); (focus rfl); (focus rfl); intro K hK) | ((with_reducible refine wpT_i ?_ ?_); (focus (refine ⟨_, _, _, _, _, _, _, _, rfl, rfl, rfl, rfl, rfl, ?_⟩; omega)); intro K hK) | ((with_reducible refine wpT_ncw ?_ ?_ ?_); (focus (first | exact .inl rfl | exact .inr (wanted_yes _ _ _ rfl rfl rfl))); (focus exact ⟨_, _, rfl, rfl, rfl⟩); intro K hK) | ((with_reducible refine wpT_x0 ?_ ?_ ?_); (focus rfl); (focus rfl); intro K hK) | ((with_reducible refine wpT_q1 ?_ ?_ ?_ ?_); (focus exact wanted_yes _ _ _ rfl rfl rfl); (focus rfl); (focus rfl); intro K hK) | ((with_reducible refine wpT_x1 ?_ ?_ ?_); (focus exact wanted_yes _ _ _ rfl rfl rfl); (focus rfl); intro K hK) | ((with_reducible refine wpT_nil ?_); try dsimp only)
      | fail)
    obtain ⟨d0, d1, d2, d3, d4⟩ := (ho2.out.en.slAt encEnt_len).2.2.getEnt hk
    simp only [Nat.zero_add] at d0 d1 d2 d3 d4
    have df0 := ho2.out.en.frozen (k * 5)
    have df1 := ho2.out.en.frozen (k * 5 + 1)
    have df2 := ho2.out.en.frozen (k * 5 + 2)
    have df3 := ho2.out.en.frozen (k * 5 + 3)
    have df4 := ho2.out.en.frozen (k * 5 + 4)
    have hgA3 := (ho2.out.en.lt gA rfl).2
    go_wp2
    refine wp_region_T (fun _ => True) [] [] [] [0, 1, 2, 3, 4, 5, 6] (by kernel_rfl) (by kernel_rfl) (by kernel_rfl) trivial ?_; simp only [pickL, List.getElem?_cons_succ, List.getElem?_cons_zero]
    go_wp2_with (first
      | (go_at_call 70; refine (figure_some (some ⟨gA, 0, none⟩) n n (some ⟨gB, 0, none⟩) 16 16 (some ⟨gE, 0, none⟩) 4 4 lo w2.heap.size r.2.2.2.1 g.1 w2.drew (show RdN 5 (flatR encEnt) w2.drew lo w2.heap.size (some ⟨gA, 0, none⟩) n n g.1 from Own.rdn (w := w2.drew) encEnt_len ho2.out.en.drew) (Nat.le_refl _) i hfj).mono ?_; rintro e w3 ⟨rfl, hb3⟩; have hb23 : Below w2.heap.size w2 w3 := Below.appR (Below.drew (Below.refl _ _)) hb3; have hbx3 := hbx2.below hb23 hlx2; have hbr3 := hbr2.below hb23 hlr2; have ho3 := hide (ho2.out.below hb23); have hz3 := hb23.size; have hB3 : Below lo w w3 := hB2.trans (hb23.mono (by omega)); clear xx0 xx1 xx2 xf0 xf1 xf2 rr0 rr1 rr2 rr3 rr4; obtain ⟨xx0, xx1, xx2, xf0, xf1, xf2⟩ := hbx3.cells; obtain ⟨rr0, rr1, rr2, rr3, rr4, -⟩ := hbr3.cells; have hlx3 := hbx3.lt; have hlr3 := hbr3.lt; clear d0 d1 d2 d3 d4 df0 df1 df2 df3 df4; obtain ⟨d0, d1, d2, d3, d4⟩ := (ho3.out.en.slAt encEnt_len).2.2.getEnt hk; simp only [Nat.zero_add] at d0 d1 d2 d3 d4; have df0 := ho3.out.en.frozen (k * 5); have df1 := ho3.out.en.frozen (k * 5 + 1); have df2 := ho3.out.en.frozen (k * 5 + 2); have df3 := ho3.out.en.frozen (k * 5 + 3); have df4 := ho3.out.en.frozen (k * 5 + 4); have hgA4 := (ho3.out.en.lt gA rfl).2)
      | ((with_reducible refine wpT_noL ?_ ?_); (focus (first | exact wanted_no _ _ _ rfl rfl rfl | exact wanted_un _ _ _ rfl rfl rfl)); simp only [setO, List.set_cons_succ, List.set_cons_zero]) | ((with_reducible refine wpT_q0 ?_ ?_ ?_ ?_); (focus rfl); (focus rfl); (focus rfl); intro K hK) | ((with_reducible refine wpT_i ?_ ?_); (focus (refine ⟨_, _, _, _, _, _, _, _, rfl, rfl, rfl, rfl, rfl, ?_⟩; omega)); intro K hK) | ((with_reducible refine wpT_ncw ?_ ?_ ?_); (focus (first | exact .inl rfl | exact .inr (wanted_yes _ _ _ rfl rfl rfl))); (focus exact ⟨_, _, rfl, rfl, rfl⟩); intro K hK) | ((with_reducible refine wpT_x0 ?_ ?_ ?_); (focus rfl); (focus rfl); intro K hK) | ((with_reducible refine wpT_q1 ?_ ?_ ?_ ?_); (focus exact wanted_yes _ _ _ rfl rfl rfl); (focus rfl); (focus rfl); intro K hK) | ((with_reducible refine wpT_x1 ?_ ?_ ?_); (focus exact wanted_yes _ _ _ rfl rfl rfl); (focus rfl); intro K hK) | ((with_reducible refine wpT_nil ?_); try dsimp only)
      | fail)
    obtain ⟨i0, i1, i2, i3, i4⟩ := (ho3.out.en.slAt encEnt_len).2.2.getEnt hi
    simp only [Nat.zero_add] at i0 i1 i2 i3 i4
    have if0 := ho3.out.en.frozen (i * 5)
    have if1 := ho3.out.en.frozen (i * 5 + 1)
    have if2 := ho3.out.en.frozen (i * 5 + 2)
    have if3 := ho3.out.en.frozen (i * 5 + 3)
    have if4 := ho3.out.en.frozen (i * 5 + 4)
    refine wp_region_T (fun _ => True) [] [] [] [0, 1, 2, 3, 4, 5, 6, 7, 8, 9, 10, 11, 12, 13, 14, 15, 16, 17, 18, 19, 20] (by kernel_rfl) (by kernel_rfl) (by kernel_rfl) trivial ?_; simp only [pickL, List.getElem?_cons_succ, List.getElem?_cons_zero]
    go_wp2_with (first
      | (go_at_call 73; refine (nearI_c g.1[k] g.1[i] _ ⟨hek.2.1, hek.2.2.1⟩ ⟨hei.2.1, hei.2.2.1⟩).mono ?_; rintro e w4 ⟨rfl, hb4⟩; simp only [hnq]; have hb34 : Below w3.heap.size w3 w4 := Below.appR (Below.drew (Below.refl _ _)) hb4; have hbx4 := hbx3.below hb34 hlx3; have hbr4 := hbr3.below hb34 hlr3; have ho4 := hide (ho3.out.below hb34); have hz4 := hb34.size; have hB4 : Below lo w w4 := hB3.trans (hb34.mono (by omega)); clear xx0 xx1 xx2 xf0 xf1 xf2 rr0 rr1 rr2 rr3 rr4; obtain ⟨xx0, xx1, xx2, xf0, xf1, xf2⟩ := hbx4.cells; obtain ⟨rr0, rr1, rr2, rr3, rr4, -⟩ := hbr4.cells; have hlx4 := hbx4.lt; have hlr4 := hbr4.lt; clear d0 d1 d2 d3 d4 df0 df1 df2 df3 df4; obtain ⟨d0, d1, d2, d3, d4⟩ := (ho4.out.en.slAt encEnt_len).2.2.getEnt hk; simp only [Nat.zero_add] at d0 d1 d2 d3 d4; have df0 := ho4.out.en.frozen (k * 5); have df1 := ho4.out.en.frozen (k * 5 + 1); have df2 := ho4.out.en.frozen (k * 5 + 2); have df3 := ho4.out.en.frozen (k * 5 + 3); have df4 := ho4.out.en.frozen (k * 5 + 4); clear i0 i1 i2 i3 i4 if0 if1 if2 if3 if4; obtain ⟨i0, i1, i2, i3, i4⟩ := (ho4.out.en.slAt encEnt_len).2.2.getEnt hi; simp only [Nat.zero_add] at i0 i1 i2 i3 i4; have if0 := ho4.out.en.frozen (i * 5); have if1 := ho4.out.en.frozen (i * 5 + 1); have if2 := ho4.out.en.frozen (i * 5 + 2); have if3 := ho4.out.en.frozen (i * 5 + 3); have if4 := ho4.out.en.frozen (i * 5 + 4); have hgA5 := (ho4.out.en.lt gA rfl).2)
      | ((with_reducible refine wpT_noL ?_ ?_); (focus (first | exact wanted_no _ _ _ rfl rfl rfl | exact wanted_un _ _ _ rfl rfl rfl)); simp only [setO, List.set_cons_succ, List.set_cons_zero]) | ((with_reducible refine wpT_q0 ?_ ?_ ?_ ?_); (focus rfl); (focus rfl); (focus rfl); intro K hK) | ((with_reducible refine wpT_i ?_ ?_); (focus (refine ⟨_, _, _, _, _, _, _, _, rfl, rfl, rfl, rfl, rfl, ?_⟩; omega)); intro K hK) | ((with_reducible refine wpT_ncw ?_ ?_ ?_); (focus (first | exact .inl rfl | exact .inr (wanted_yes _ _ _ rfl rfl rfl))); (focus exact ⟨_, _, rfl, rfl, rfl⟩); intro K hK) | ((with_reducible refine wpT_x0 ?_ ?_ ?_); (focus rfl); (focus rfl); intro K hK) | ((with_reducible refine wpT_q1 ?_ ?_ ?_ ?_); (focus exact wanted_yes _ _ _ rfl rfl rfl); (focus rfl); (focus rfl); intro K hK) | ((with_reducible refine wpT_x1 ?_ ?_ ?_); (focus exact wanted_yes _ _ _ rfl rfl rfl); (focus rfl); intro K hK) | ((with_reducible refine wpT_nil ?_); try dsimp only)
      | fail)
    have ho5 := hide (ho4.out.putE hi (hitE g.1[i]) 3 (by omega) (.int .i64 (g.1[i].2.2.2.1 - 1)) rfl)
    have hbx5 := hbx4.keep (w' := w4.setCell ⟨gA, i * 5 + 3, none⟩ (.int .i64 (g.1[i].2.2.2.1 - 1))) (ne_set _ (Ne.symm hAx))
    have hbr5 := hbr4.keep (w' := w4.setCell ⟨gA, i * 5 + 3, none⟩ (.int .i64 (g.1[i].2.2.2.1 - 1))) (ne_set _ hAw1)
    have hB5 := hB4.setCell (p := ⟨gA, i * 5 + 3, none⟩) hgA1 (.int .i64 (g.1[i].2.2.2.1 - 1))
    have hz5 := hide (show (w4.setCell ⟨gA, i * 5 + 3, none⟩ (.int .i64 (g.1[i].2.2.2.1 - 1))).heap.size = w4.heap.size by simp)
    have hgA5 := (ho5.out.en.lt gA rfl).2
    have hzl5 : w.heap.size < (w4.setCell ⟨gA, i * 5 + 3, none⟩ (.int .i64 (g.1[i].2.2.2.1 - 1))).heap.size := by rw [hz5.out]; exact hlr4
    clear xx0 xx1 xx2 xf0 xf1 xf2 rr0 rr1 rr2 rr3 rr4 d0 d1 d2 d3 d4 df0 df1 df2 df3 df4 i0 i1 i2 i3 i4 if0 if1 if2 if3 if4
    generalize w4.setCell ⟨gA, i * 5 + 3, none⟩ (.int .i64 (g.1[i].2.2.2.1 - 1)) = w5 at *
    obtain ⟨xx0, xx1, xx2, xf0, xf1, xf2⟩ := hbx5.cells
    obtain ⟨rr0, rr1, rr2, rr3, rr4, -⟩ := hbr5.cells
    have hlx5 := hbx5.lt
    have hlr5 := hbr5.lt
    have hi5 : i < (g.1.set i (hitE g.1[i])).length := by simpa using hi
    obtain ⟨i0, i1, i2, i3, i4⟩ := (ho5.out.en.slAt encEnt_len).2.2.getEnt hi5
    simp only [Nat.zero_add, List.getElem_set_self, hitE] at i0 i1 i2 i3 i4
    have hst : Stays gA w5.heap[gA]? w5 := ⟨rfl⟩
    refine wp_region_T (Stays _ _) [82] [] [218, 220] [0, 1, 2, 3, 4, 5, 9, 10, 11, 12, 6, 7, 8, 13, 14, 15] (by kernel_rfl) (by kernel_rfl) (by kernel_rfl) (Stays.drew hst) ?_; simp only [pickL, List.getElem?_cons_succ, List.getElem?_cons_zero]
    go_wp2_with (first
      | (go_at_call 72; refine (floor0_c (some ⟨gA, 0, none⟩) n n gB 16 (some ⟨gE, 0, none⟩) 4 4 (hitE g.1[i]) w5.drew ⟨hei.2.1, hei.2.2.1⟩ sq hsqe.out).mono ?_; rintro e w6 ⟨rfl, hb6⟩; have hb56 : Below w5.heap.size w5 w6 := Below.appR (Below.drew (Below.refl _ _)) hb6; have hbx6 := hbx5.below hb56 hlx5; have hbr6 := hbr5.below hb56 hlr5; have ho6 := hide (ho5.out.below hb56); have hz6 := hb56.size; have hB6 : Below lo w w6 := hB5.trans (hb56.mono (by omega)); clear xx0 xx1 xx2 xf0 xf1 xf2 rr0 rr1 rr2 rr3 rr4; obtain ⟨xx0, xx1, xx2, xf0, xf1, xf2⟩ := hbx6.cells; obtain ⟨rr0, rr1, rr2, rr3, rr4, -⟩ := hbr6.cells; have hlx6 := hbx6.lt; have hlr6 := hbr6.lt; have hst6 : Stays gA w5.heap[gA]? w6 := ⟨hb56.block gA hgA5⟩; have hq0 := (ho6.out.fl.slAt encI_len).2.2.i64 hsl; (simp only [Nat.zero_add] at hq0); have hqf := ho6.out.fl.frozen sq; have hgB3 := (ho6.out.fl.lt gB rfl).2)
      | ((with_reducible refine Stays.and_ ?_ ?_); (focus (repeat (first | (with_reducible assumption) | (with_reducible refine Stays.drew ?_) | ((with_reducible refine Stays.cell ?_ ?_); rotate_left; (focus (first | (with_reducible assumption) | (simp; done) | (simp; omega))))))); intro hS) | ((with_reducible refine wpT_noL ?_ ?_); (focus (first | exact wanted_no _ _ _ rfl rfl rfl | exact wanted_un _ _ _ rfl rfl rfl)); simp only [setO, List.set_cons_succ, List.set_cons_zero]) | ((with_reducible refine wpT_q0 ?_ ?_ ?_ ?_); (focus rfl); (focus rfl); (focus rfl); intro K hK) | ((with_reducible refine wpT_i ?_ ?_); (focus (refine ⟨_, _, _, _, _, _, _, _, rfl, rfl, rfl, rfl, rfl, ?_⟩; omega)); intro K hK) | ((with_reducible refine wpT_ncw ?_ ?_ ?_); (focus (first | exact .inl rfl | exact .inr (wanted_yes _ _ _ rfl rfl rfl))); (focus exact ⟨_, _, rfl, rfl, rfl⟩); intro K hK) | ((with_reducible apply wpT_k); (focus rfl); (focus rfl); (focus rfl); (focus rfl); (focus (first | assumption | exact Stays.drew (by assumption))); (focus rfl); (focus go_simp); intro K hK) | ((with_reducible refine wpT_xs0 ?_ ?_ ?_); (focus rfl); (focus rfl); intro K hK) | ((with_reducible refine wpT_q1 ?_ ?_ ?_ ?_); (focus exact wanted_yes _ _ _ rfl rfl rfl); (focus rfl); (focus rfl); intro K hK) | ((with_reducible refine wpT_xs1 ?_ ?_ ?_); (focus exact wanted_yes _ _ _ rfl rfl rfl); (focus rfl); intro K hK) | ((with_reducible refine wpT_nil ?_); try dsimp only)
      | fail)
    have ho7 := hide (ho6.out.putF hsl (g.2.1[sq] + g.1[i].2.2.2.2))
    have hbx7 := hbx6.keep (w' := w6.setCell ⟨gB, sq, none⟩ (.int .i64 (g.2.1[sq] + g.1[i].2.2.2.2))) (ne_set _ (Ne.symm hnB))
    have hB7 := hB6.setCell (p := ⟨gB, sq, none⟩) (ho6.out.fl.lt gB rfl).1 (.int .i64 (g.2.1[sq] + g.1[i].2.2.2.2))
    have hz7 : (w6.setCell ⟨gB, sq, none⟩ (.int .i64 (g.2.1[sq] + g.1[i].2.2.2.2))).heap.size = w6.heap.size := by simp
    have hz7h := hide hz7
    have hbl7 : bx < (w6.setCell ⟨gB, sq, none⟩ (.int .i64 (g.2.1[sq] + g.1[i].2.2.2.2))).heap.size := by rw [hz7]; exact hlx6
    have hlo7 : lo ≤ (w6.setCell ⟨gB, sq, none⟩ (.int .i64 (g.2.1[sq] + g.1[i].2.2.2.2))).heap.size := by omega
    clear xx0 xx1 xx2 xf0 xf1 xf2 rr0 rr1 rr2 rr3 rr4 hq0 hqf hz7
    generalize w6.setCell ⟨gB, sq, none⟩ (.int .i64 (g.2.1[sq] + g.1[i].2.2.2.2)) = w7 at *
    have hin5 : i < n := by have := hn'.out; omega
    refine (Delete_c gA n lo i (g.1.set i (hitE g.1[i])) w7 ho7.out.en hin5 hn4).mono ?_
    rintro e w8 ⟨rfl, ho8, hO8⟩
    rw [erase_set] at ho8
    have hbx8 : Bx3 w8 bx (.slice (some ⟨gA, 0, none⟩) n n) (.slice (some ⟨gB, 0, none⟩) 16 16) (.slice (some ⟨gE, 0, none⟩) 4 4) 35 := (hO8.block bx hbl7 (fun e => hAx (by injection e))).trans hbx7
    have hB8 : Below lo w w8 := hB7.trans (hO8.toBelow hlo7 (fun q hq => by injection hq with hq; omega))
    have hz8 := hO8.size
    have hgB7 := (ho7.out.fl.lt gB rfl).2
    have hgE7 := (ho7.out.la.lt gE rfl).2
    have hfl8 := hide (ho7.out.fl.keep (fun b hb => hO8.block b (by simp [Value.ownBlock] at hb; omega) (by simp [Value.ownBlock] at hb; intro e; injection e with e; omega)))
    have hla8 := hide (ho7.out.la.keep (fun b hb => hO8.block b (by simp [Value.ownBlock] at hb; omega) (by simp [Value.ownBlock] at hb; intro e; injection e with e; omega)))
    have hl8 := hide ho8.lenEq
    have ho8' := hide (ho8.slAt encEnt_len).2.2
    obtain ⟨xx0, xx1, xx2, xf0, xf1, xf2⟩ := hbx8.cells
    go_wp2_with fail
    refine (cloneEnt_c (some ⟨gA, 0, none⟩) (n - 1) n lo w8.heap.size (g.1.eraseIdx i) w8 hl8.out (by omega) ho8'.out (Nat.le_refl _)).mono ?_
    rintro e w9 ⟨A9, rfl, ho9, hb9⟩
    have hbx9 := hbx8.below hb9 (by omega)
    have hfl9 := hide (hfl8.out.below hb9 (Nat.le_refl _))
    have hla9 := hide (hla8.out.below hb9 (Nat.le_refl _))
    have hB9 : Below lo w w9 := hB8.trans (hb9.mono (by omega))
    have hA9 := hide (fun q hq => (ho9.lt q hq).1)
    have ho9' := hide ho9
    clear xx0 xx1 xx2 xf0 xf1 xf2 ho9
    obtain ⟨xx0, xx1, xx2, xf0, xf1, xf2⟩ := hbx9.cells
    have hlx9 := hbx9.lt
    go_wp2
    go_ret
    rw [hh.out]
    have hP : ActPost bx lo gB gE w ((g.1.eraseIdx i, g.2.1.set sq (g.2.1[sq] + g.1[i].2.2.2.2), g.2.2), 0) (.returned (.int .i64 0)) (w9.setCell ⟨bx, 0, none⟩ (.slice A9 (n - 1) (n - 1))) :=
      ⟨A9, n - 1, rfl, hbx9.set0 _, ⟨(ho9'.out.mono (by omega)).keep (fun b hb => ne_set _ (by have := hA9.out b hb; omega)), hfl9.out.keep (fun b hb => ne_set _ (by simp [Value.ownBlock] at hb; omega)), hla9.out.keep (fun b hb => ne_set _ (by simp [Value.ownBlock] at hb; omega)),
        fun b hb h2 => by have := hA9.out b hb; simp [Value.ownBlock] at h2; omega, fun b hb h2 => by have := hA9.out b hb; simp [Value.ownBlock] at h2; omega, fun b hb h2 => by simp [Value.ownBlock] at hb h2; omega⟩, fun b hb => by have := hA9.out b hb; omega, hB9.setCell (p := ⟨bx, 0, none⟩) hlo _⟩
    (repeat (first | exact hP | refine ActPost.dr ?_))
end Go.Proofs.YtajmfonepnkofaaDoor
namespace Go.Proofs.YtajmfonepnkofaaDoor
open Go.RowKit Rg
set_option linter.unusedVariables false
set_option linter.unusedSimpArgs false

theorem Only.row {B : Nat} {g : Option Nat} {w w' : World} (h : Only B g w w') {b : Nat} (hb : b < B) (hne : g ≠ some b) : w'.heap[b]? = w.heap[b]? := h.block b hb hne

set_option maxRecDepth 100000 in
set_option maxHeartbeats 2000000 in
theorem actJoin (bx lo gB gE : Nat) (A : Option Addr) (n : Nat) (g : GameT) (r : AskT) (w : World) (hbx : Bx3 w bx (.slice A n n) (.slice (some ⟨gB, 0, none⟩) 16 16) (.slice (some ⟨gE, 0, none⟩) 4 4) 35) (ho : GmO w lo A n n (some ⟨gB, 0, none⟩) 16 16 (some ⟨gE, 0, none⟩) 4 4 g)
    (hlo : lo ≤ bx) (hnA : ∀ k, (Value.slice A n n).ownBlock = some k → k ≠ bx) (hnB : gB ≠ bx) (hnE : gE ≠ bx) (hok : okG' g) (hr : okA r) (hfi : figI g.1 r.1 = none) (hop : r.2.2.1 = 1) :
    Calls Tryd.prog 44 #[.pointer (some ⟨bx, 0, none⟩), .agg #[.int .i64 r.1, .int .i64 r.2.1, .int .i64 r.2.2.1, .int .i64 r.2.2.2.1, .int .i64 r.2.2.2.2]] w fun e w' => ActPost bx lo gB gE w (behG g r) e w' := by
  have hA1 := (Below.refl w.heap.size w).alloc (Nat.le_refl _) (.cells #[.int .i64 r.1, .int .i64 r.2.1, .int .i64 r.2.2.1, .int .i64 r.2.2.2.1, .int .i64 r.2.2.2.2] 37)
  have hbr1 := Bx5.made w r 37
  have hbx1 := hbx.below hA1 hbx.lt
  have ho1 := hide (ho.below hA1)
  have hz1 : w.heap.size + 1 ≤ (w.alloc (.cells #[.int .i64 r.1, .int .i64 r.2.1, .int .i64 r.2.2.1, .int .i64 r.2.2.2.1, .int .i64 r.2.2.2.2] 37)).heap.size := by simp only [World.size_alloc]; omega
  have hbl := hbx.lt
  obtain ⟨xx0, xx1, xx2, xf0, xf1, xf2⟩ := hbx1.cells
  obtain ⟨rr0, rr1, rr2, rr3, rr4, -⟩ := hbr1.cells
  have hlx := hbx1.lt
  have hlr := hbr1.lt
  have hn' := hide ho.en.lenEq
  have hn4 : n ≤ 4 := by
    have h3 := inc_len hok.inc (fun e he => (hok.ent e he).1)
    have := hn'.out
    omega
  have hok' := hide hok
  have hrH := hide hr
  have hnA' := hide hnA
  have hoH := hide ho
  clear hok hr ho hbx hnA
  have hh := hide (show behG g r = ((joinE g.1 r.1, g.2.1, g.2.2), 0) by unfold behG; rw [hfi]; dsimp only; rw [if_pos hop])
  have hq1 : (r.2.2.1 == 1) = true := by simp [hop]
  have hcl : 1 ≤ r.1 ∧ r.1 ≤ 4 := hrH.out.1
  have hjl := hide (show (joinE g.1 r.1).length = n + 1 by
    have h1 : (g.1.takeWhile (fun e => decide (e.1 < r.1))).length + (g.1.dropWhile (fun e => decide (e.1 < r.1))).length = g.1.length := by rw [← List.length_append, List.takeWhile_append_dropWhile]
    have h2 : (joinE g.1 r.1).length = (g.1.takeWhile (fun e => decide (e.1 < r.1))).length + ((g.1.dropWhile (fun e => decide (e.1 < r.1))).length + 1) := by unfold joinE; rw [List.length_append, List.length_cons]
    have := hn'.out
    omega)
  clear hop
  go_enter Tryd.func44, Tryd.ntmps44
  go_wp2
  generalize w.alloc (.cells #[.int .i64 r.1, .int .i64 r.2.1, .int .i64 r.2.2.1, .int .i64 r.2.2.2.1, .int .i64 r.2.2.2.2] 37) = w1 at *
  refine wp_region_T (fun _ => True) [] [] [] [0, 1, 2, 3, 4, 5, 6] (by kernel_rfl) (by kernel_rfl) (by kernel_rfl) trivial ?_; simp only [pickL, List.getElem?_cons_succ, List.getElem?_cons_zero]
  go_wp2_with (first
    | (go_at_call 70; refine (figure_none _ n n (some ⟨gB, 0, none⟩) 16 16 (some ⟨gE, 0, none⟩) 4 4 lo w1.heap.size r.1 g.1 w1.drew (show RdN 5 (flatR encEnt) w1.drew lo w1.heap.size _ n n g.1 from Own.rdn (w := w1.drew) encEnt_len ho1.out.en.drew) (Nat.le_refl _) hfi).mono ?_; rintro e w2 ⟨rfl, hb2⟩; have hb12 : Below w1.heap.size w1 w2 := Below.appR (Below.drew (Below.refl _ _)) hb2; have hbx2 := hbx1.below hb12 hlx; have hbr2 := hbr1.below hb12 hlr; have ho2 := hide (ho1.out.below hb12); have hz2 := hb12.size; have hB2 : Below lo w w2 := (hA1.mono (by omega)).trans (hb12.mono (by omega)); clear xx0 xx1 xx2 xf0 xf1 xf2 rr0 rr1 rr2 rr3 rr4; obtain ⟨xx0, xx1, xx2, xf0, xf1, xf2⟩ := hbx2.cells; obtain ⟨rr0, rr1, rr2, rr3, rr4, -⟩ := hbr2.cells; have hlx2 := hbx2.lt; have hlr2 := hbr2.lt)
    | ((with_reducible refine wpT_noL ?_ ?_); (focus (first | exact wanted_no _ _ _ rfl rfl rfl | exact wanted_un _ _ _ rfl rfl rfl)); simp only [setO, List.set_cons_succ, List.set_cons_zero]) | ((with_reducible refine wpT_q0 ?_ ?_ ?_ ?_); (focus rfl); (focus rfl); (focus rfl); intro K hK) | ((with_reducible refine wpT_i ?_ ?_); (focus (refine ⟨_, _, _, _, _, _, _, _, rfl, rfl, rfl, rfl, rfl, ?_⟩; omega)); intro K hK) | ((with_reducible refine wpT_ncw ?_ ?_ ?_); (focus (first | exact .inl rfl | exact .inr (wanted_yes _ _ _ rfl rfl rfl))); (focus exact ⟨_, _, rfl, rfl, rfl⟩); intro K hK) | ((with_reducible refine wpT_x0 ?_ ?_ ?_); (focus rfl); (focus rfl); intro K hK) | ((with_reducible refine wpT_q1 ?_ ?_ ?_ ?_); (focus exact wanted_yes _ _ _ rfl rfl rfl); (focus rfl); (focus rfl); intro K hK) | ((with_reducible refine wpT_x1 ?_ ?_ ?_); (focus exact wanted_yes _ _ _ rfl rfl rfl); (focus rfl); intro K hK) | ((with_reducible refine wpT_nil ?_); try dsimp only)
    | fail)
  go_loopw [6] (fun i wr => ∃ k : Nat, k ≤ n ∧ i = .int .i64 (k : Int) ∧ Hid (∀ (j : Nat) (h : j < g.1.length), j < k → g.1[j].1 < r.1) ∧ Below w2.heap.size w2 wr) (fun i _ => n - (intOf i).toNat)
  case atStart => exact ⟨0, Nat.zero_le _, rfl, hide (fun j h h' => absurd h' (by omega)), by first | exact Below.refl _ _ | exact (Below.refl _ _).drew⟩
  case round =>
    obtain ⟨k, hk, rfl, hall, hbr0⟩ := hrel
    have hbd : Below w2.heap.size w2 wr.drew := hbr0.drew
    have hbxr := hbx2.below hbr0 hlx2
    have hbrr := hbr2.below hbr0 hlr2
    have hor := hide (ho2.out.below hbr0)
    have hzr := hbr0.size
    clear xx0 xx1 xx2 xf0 xf1 xf2 rr0 rr1 rr2 rr3 rr4
    obtain ⟨xx0, xx1, xx2, xf0, xf1, xf2⟩ := hbxr.cells
    obtain ⟨rr0, rr1, rr2, rr3, rr4, -⟩ := hbrr.cells
    have hlxr := hbxr.lt
    have hlrr := hbrr.lt
    by_cases hlt : k < n
    · have hkx : k < g.1.length := by have := hn'.out; omega
      obtain ⟨gA, hgA, hgA1, hgA2⟩ := hor.out.en.addrAt (show 0 < n by omega)
      obtain ⟨d0, d1, d2, d3, d4⟩ := (show Sl encEnt 5 wr lo wr.heap.size (some ⟨gA, 0, none⟩) g.1 from hgA ▸ (hor.out.en.slAt encEnt_len).2.2).getEnt hkx
      simp only [Nat.zero_add] at d0 d1 d2 d3 d4
      subst hgA
      cases e1 : decide (g.1[k].1 < r.1)
      · clear hor
        go_wp2
        refine wp_region_T (fun _ => True) [] [] [] [0, 1, 2, 3, 4, 5, 6, 7, 8, 9, 10, 11, 12, 13, 14, 15, 16, 17, 18, 19] (by kernel_rfl) (by kernel_rfl) (by kernel_rfl) trivial ?_; simp only [pickL, List.getElem?_cons_succ, List.getElem?_cons_zero]
        go_wp2_with (first
          | ((with_reducible refine wpT_noL ?_ ?_); (focus (first | exact wanted_no _ _ _ rfl rfl rfl | exact wanted_un _ _ _ rfl rfl rfl)); simp only [setO, List.set_cons_succ, List.set_cons_zero]) | ((with_reducible refine wpT_q0 ?_ ?_ ?_ ?_); (focus rfl); (focus rfl); (focus rfl); intro K hK) | ((with_reducible refine wpT_i ?_ ?_); (focus (refine ⟨_, _, _, _, _, _, _, _, rfl, rfl, rfl, rfl, rfl, ?_⟩; omega)); intro K hK) | ((with_reducible refine wpT_ncw ?_ ?_ ?_); (focus (first | exact .inl rfl | exact .inr (wanted_yes _ _ _ rfl rfl rfl))); (focus exact ⟨_, _, rfl, rfl, rfl⟩); intro K hK) | ((with_reducible refine wpT_x0 ?_ ?_ ?_); (focus rfl); (focus rfl); intro K hK) | ((with_reducible refine wpT_q1 ?_ ?_ ?_ ?_); (focus exact wanted_yes _ _ _ rfl rfl rfl); (focus rfl); (focus rfl); intro K hK) | ((with_reducible refine wpT_x1 ?_ ?_ ?_); (focus exact wanted_yes _ _ _ rfl rfl rfl); (focus rfl); intro K hK) | ((with_reducible refine wpT_nil ?_); try dsimp only)
          | fail)
        have hjn := hide (joinE_at (c := r.1) (Nat.le_of_lt hkx) hall.out (fun _ => by simpa using e1))
        go_wp2_with fail
        generalize wr.drew = wq at *
        have hbxq := hbx2.below hbd hlx2
        have hbrq := hbr2.below hbd hlr2
        have hoq := hide (ho2.out.below hbd)
        have hzq := hbd.size
        have hBq : Below lo w wq := hB2.trans (hbd.mono (by omega))
        clear xx0 xx1 xx2 xf0 xf1 xf2 rr0 rr1 rr2 rr3 rr4
        obtain ⟨xx0, xx1, xx2, xf0, xf1, xf2⟩ := hbxq.cells
        obtain ⟨rr0, rr1, rr2, rr3, rr4, -⟩ := hbrq.cells
        have hlxq := hbxq.lt
        have hlrq := hbrq.lt
        have how := hide (show Own encEnt 5 82 ((wq.alloc (.cells #[.int .i64 r.1, .int .i64 (r.1 - 1), .int .i64 (r.1 - 1), .int .i64 3, .int .i64 0] 82)).drew) lo (.slice (some ⟨gA, 0, none⟩) n n) g.1 from (hoq.out.en.alloc _).drew)
        have hA4 : Below wq.heap.size wq ((wq.alloc (.cells #[.int .i64 r.1, .int .i64 (r.1 - 1), .int .i64 (r.1 - 1), .int .i64 3, .int .i64 0] 82)).drew) := ((Below.refl wq.heap.size wq).alloc (Nat.le_refl _) _).drew
        have hv4 := hide (show Sl encEnt 5 ((wq.alloc (.cells #[.int .i64 r.1, .int .i64 (r.1 - 1), .int .i64 (r.1 - 1), .int .i64 3, .int .i64 0] 82)).drew) 0 ((wq.alloc (.cells #[.int .i64 r.1, .int .i64 (r.1 - 1), .int .i64 (r.1 - 1), .int .i64 3, .int .i64 0] 82)).drew).heap.size (some ⟨wq.heap.size, 0, none⟩) [(r.1, r.1 - 1, r.1 - 1, 3, 0)] from (sl_arr encEnt_len wq #[.int .i64 r.1, .int .i64 (r.1 - 1), .int .i64 (r.1 - 1), .int .i64 3, .int .i64 0] 82 [(r.1, r.1 - 1, r.1 - 1, 3, 0)] rfl |>.mono (Nat.zero_le _) (by simp only [World.size_drew, World.size_alloc]; omega)))
        have hz4 : ((wq.alloc (.cells #[.int .i64 r.1, .int .i64 (r.1 - 1), .int .i64 (r.1 - 1), .int .i64 3, .int .i64 0] 82)).drew).heap.size = wq.heap.size + 1 := by simp only [World.size_drew, World.size_alloc]
        have hz4h := hide hz4
        have hlo4 : lo ≤ ((wq.alloc (.cells #[.int .i64 r.1, .int .i64 (r.1 - 1), .int .i64 (r.1 - 1), .int .i64 3, .int .i64 0] 82)).drew).heap.size := by omega
        clear hz4
        have hst4 : Stays w.heap.size wq.heap[w.heap.size]? ((wq.alloc (.cells #[.int .i64 r.1, .int .i64 (r.1 - 1), .int .i64 (r.1 - 1), .int .i64 3, .int .i64 0] 82)).drew) := ⟨hA4.block _ hlrq⟩
        have hwb : ¬ w.heap.size = bx := by omega
        have hst : Stays w.heap.size wq.heap[w.heap.size]? wq := ⟨rfl⟩
        refine wp_region_O (Stays _ _) [35, 37] [46, 48, 58] [51, 53, 54, 56, 57] (Ord.seg [0, 1, 5, 6, 7, 8, 9, 10, 11, 12, 13] (Ord.both 2 14 (Ord.seg [3] (Ord.both 4 14 (Ord.seg [14, 15, 16, 17, 18, 19, 20] Ord.done) (Ord.seg [] (Ord.both 4 15 (Ord.seg [15, 16, 17, 18, 19, 20] Ord.done) (Ord.seg [4, 16, 17, 18, 19, 20] Ord.done))))) (Ord.seg [] (Ord.both 2 15 (Ord.seg [3] (Ord.both 4 15 (Ord.seg [15, 16, 17, 18, 19, 20] Ord.done) (Ord.seg [4, 16, 17, 18, 19, 20] Ord.done))) (Ord.seg [2, 3, 4, 16, 17, 18, 19, 20] Ord.done))))) (by kernel_rfl) (by kernel_rfl) (by kernel_rfl) (Stays.drew hst) ?_
        go_wp2_with (first
          | (go_at_call 68; refine (cloneEnt_c A5 (n + 1) c5 lo w5.heap.size (joinE g.1 r.1) w5 hl5.out (by omega) ho5'.out (Nat.le_refl _)).mono ?_; rintro e w6 ⟨A6, rfl, ho6, hb6⟩; have hbx6 := hbx5.below hb6 hlx5; have hst6 : Stays w.heap.size wq.heap[w.heap.size]? w6 := ⟨(hb6.block _ (by have := hz5; omega)).trans hst5.heap⟩; have hfl6 := hide (hfl5.out.below hb6 (Nat.le_refl _)); have hla6 := hide (hla5.out.below hb6 (Nat.le_refl _)); have hB6 : Below lo w w6 := hB5.trans (hb6.mono (by omega)); have hA6 := hide (fun q hq => (ho6.lt q hq).1); have ho6' := hide ho6; clear xx0 xx1 xx2 xf0 xf1 xf2 ho6; obtain ⟨xx0, xx1, xx2, xf0, xf1, xf2⟩ := hbx6.cells; have hlx6 := hbx6.lt)
          | (go_at_call 71; refine (Insert_c (some ⟨gA, 0, none⟩) n lo k g.1 (r.1, r.1 - 1, r.1 - 1, 3, 0) wq.heap.size ((wq.alloc (.cells #[.int .i64 r.1, .int .i64 (r.1 - 1), .int .i64 (r.1 - 1), .int .i64 3, .int .i64 0] 82)).drew) how.out hk hn4 hlo4 hv4.out).mono ?_; rintro e w5 ⟨v5, rfl, ho5, hO5⟩; (rw [← hjn.out] at ho5); obtain ⟨A5, n5, c5, rfl, hn5⟩ := ho5.shape; have hz5 := hO5.size; have hz4' := hz4h.out; have hbx5 : Bx3 w5 bx (.slice (some ⟨gA, 0, none⟩) n n) (.slice (some ⟨gB, 0, none⟩) 16 16) (.slice (some ⟨gE, 0, none⟩) 4 4) 35 := (hO5.row (by omega) (fun e => hnA'.out bx e rfl)).trans (hbxq.below hA4 hlxq); have hlx5 := hbx5.lt; have hst5 : Stays w.heap.size wq.heap[w.heap.size]? w5 := ⟨(hO5.row (by omega) (fun e => by have := (hoq.out.en.lt _ e).2; have h9 := (hoH.out.en.lt _ e).2; omega)).trans (hA4.block _ hlrq)⟩; have hgBl := (hoq.out.fl.lt gB rfl); have hgEl := (hoq.out.la.lt gE rfl); have hfl5 := hide (((hoq.out.fl.alloc _).drew).keep (w' := w5) (fun b hb => hO5.row (by simp [Value.ownBlock] at hb; omega) (fun e => hoq.out.ab b e hb))); have hla5 := hide (((hoq.out.la.alloc _).drew).keep (w' := w5) (fun b hb => hO5.row (by simp [Value.ownBlock] at hb; omega) (fun e => hoq.out.ae b e hb))); have hB5 : Below lo w w5 := (hBq.trans (hA4.mono (by omega))).trans (hO5.toBelow (by omega) (fun q hq => (hoq.out.en.lt q hq).1)); have hl5 := hide (show n + 1 = (joinE g.1 r.1).length by rw [hjl.out]); obtain rfl : n5 = n + 1 := (by have := hn5.out; have := hl5.out; omega); have ho5' := hide (ho5.slAt encEnt_len).2.2; have hlo5 : lo ≤ w5.heap.size := (by omega); have hbl5 : bx < w5.heap.size := hlx5)
          | ((with_reducible refine wpO_seg ?_); simp only [pickL, List.toList_toArray, List.getElem?_cons_succ, List.getElem?_cons_zero]) | ((with_reducible refine wpO_both ?_ ?_) <;> simp only [pickL, List.toList_toArray, List.getElem?_cons_succ, List.getElem?_cons_zero]) | ((with_reducible refine wpO_three ?_ ?_ ?_) <;> simp only [pickL, List.toList_toArray, List.getElem?_cons_succ, List.getElem?_cons_zero]) | ((with_reducible refine wpO_done ?_); try dsimp only) | ((with_reducible refine Stays.and_ ?_ ?_; (focus (repeat (first | (with_reducible assumption) | ((with_reducible refine Stays.cell ?_ ?_); rotate_left; (focus (first | (with_reducible assumption) | (simp; done) | (simp; omega)))) | (with_reducible refine Stays.drew ?_) | ((with_reducible refine Stays.alloc ?_ ?_ _); rotate_left; (focus (first | (with_reducible assumption) | omega)))))); intro hS)) | ((with_reducible refine wpT_noL ?_ ?_); (focus (first | exact wanted_no _ _ _ rfl rfl rfl | exact wanted_un _ _ _ rfl rfl rfl)); simp only [setO, List.set_cons_succ, List.set_cons_zero]) | ((with_reducible refine wpT_q0 ?_ ?_ ?_ ?_); (focus rfl); (focus rfl); (focus rfl); intro K hK) | ((with_reducible refine wpT_b ?_ ?_); (focus (exact ⟨_, _, _, _, _, _, _, _, _, rfl, rfl, rfl, rfl, rfl, rfl⟩)); intro K hK) | ((with_reducible refine wpT_ncw ?_ ?_ ?_); (focus (first | exact .inl rfl | exact .inr (wanted_yes _ _ _ rfl rfl rfl))); (focus exact ⟨_, _, rfl, rfl, rfl⟩); intro K hK) | ((with_reducible apply wpT_k); (focus rfl); (focus rfl); (focus rfl); (focus rfl); (focus (first | assumption | exact Stays.drew (by assumption))); (focus rfl); (focus go_simp); intro K hK) | ((with_reducible refine wpT_xs0 ?_ ?_ ?_); (focus rfl); (focus rfl); intro K hK) | ((with_reducible refine wpT_q1 ?_ ?_ ?_ ?_); (focus exact wanted_yes _ _ _ rfl rfl rfl); (focus rfl); (focus rfl); intro K hK) | ((with_reducible refine wpT_xs1 ?_ ?_ ?_); (focus exact wanted_yes _ _ _ rfl rfl rfl); (focus rfl); intro K hK) | ((with_reducible refine wpT_nil ?_); try dsimp only)
          | fail)
        all_goals
          go_ret
          rw [hh.out]
          have hP : ActPost bx lo gB gE w ((joinE g.1 r.1, g.2.1, g.2.2), 0) (.returned (.int .i64 0)) (w6.setCell ⟨bx, 0, none⟩ (.slice A6 (n + 1) (n + 1))) :=
            ⟨A6, n + 1, rfl, hbx6.set0 _, ⟨(ho6'.out.mono (by omega)).keep (fun b hb => ne_set _ (by have := hA6.out b hb; omega)), hfl6.out.keep (fun b hb => ne_set _ (by simp [Value.ownBlock] at hb; omega)), hla6.out.keep (fun b hb => ne_set _ (by simp [Value.ownBlock] at hb; omega)),
              fun b hb h2 => by have := hA6.out b hb; simp [Value.ownBlock] at h2; omega, fun b hb h2 => by have := hA6.out b hb; simp [Value.ownBlock] at h2; omega, fun b hb h2 => ho2.out.be b hb h2⟩, fun b hb => by have := hA6.out b hb; omega, hB6.setCell (p := ⟨bx, 0, none⟩) hlo _⟩
          (repeat (first | exact hP | refine ActPost.dr ?_))
      · have hyes := hide (show g.1[k].1 < r.1 by simpa using e1)
        go_wp2
        refine wp_region_T (fun _ => True) [] [] [] [0, 1, 2, 3, 4, 5, 6, 7, 8, 9, 10, 11, 12, 13, 14, 15, 16, 17, 18, 19] (by kernel_rfl) (by kernel_rfl) (by kernel_rfl) trivial ?_; simp only [pickL, List.getElem?_cons_succ, List.getElem?_cons_zero]
        go_wp2_with (first
          | ((with_reducible refine wpT_noL ?_ ?_); (focus (first | exact wanted_no _ _ _ rfl rfl rfl | exact wanted_un _ _ _ rfl rfl rfl)); simp only [setO, List.set_cons_succ, List.set_cons_zero]) | ((with_reducible refine wpT_q0 ?_ ?_ ?_ ?_); (focus rfl); (focus rfl); (focus rfl); intro K hK) | ((with_reducible refine wpT_i ?_ ?_); (focus (refine ⟨_, _, _, _, _, _, _, _, rfl, rfl, rfl, rfl, rfl, ?_⟩; omega)); intro K hK) | ((with_reducible refine wpT_ncw ?_ ?_ ?_); (focus (first | exact .inl rfl | exact .inr (wanted_yes _ _ _ rfl rfl rfl))); (focus exact ⟨_, _, rfl, rfl, rfl⟩); intro K hK) | ((with_reducible refine wpT_x0 ?_ ?_ ?_); (focus rfl); (focus rfl); intro K hK) | ((with_reducible refine wpT_q1 ?_ ?_ ?_ ?_); (focus exact wanted_yes _ _ _ rfl rfl rfl); (focus rfl); (focus rfl); intro K hK) | ((with_reducible refine wpT_x1 ?_ ?_ ?_); (focus exact wanted_yes _ _ _ rfl rfl rfl); (focus rfl); intro K hK) | ((with_reducible refine wpT_nil ?_); try dsimp only)
          | fail)
        go_roundw
        case rel => exact ⟨k + 1, by omega, by go_num, hide (fun j hj hjk => by
          by_cases h : j < k
          · exact hall.out j hj h
          · obtain rfl : j = k := by omega
            exact hyes.out), by first | exact hbr0 | exact hbr0.drew | exact hbr0.drew.drew⟩
        case measure => simp [intOf]; omega
    · clear hor
      go_wp2
      refine wp_region_T (fun _ => True) [] [] [] [0, 1, 2, 3, 4, 5, 6, 7, 8, 9, 10, 11, 12, 13, 14, 15, 16, 17, 18, 19] (by kernel_rfl) (by kernel_rfl) (by kernel_rfl) trivial ?_; simp only [pickL, List.getElem?_cons_succ, List.getElem?_cons_zero]
      go_wp2_with (first
        | ((with_reducible refine wpT_noL ?_ ?_); (focus (first | exact wanted_no _ _ _ rfl rfl rfl | exact wanted_un _ _ _ rfl rfl rfl)); simp only [setO, List.set_cons_succ, List.set_cons_zero]) | ((with_reducible refine wpT_q0 ?_ ?_ ?_ ?_); (focus rfl); (focus rfl); (focus rfl); intro K hK) | ((with_reducible refine wpT_i ?_ ?_); (focus (refine ⟨_, _, _, _, _, _, _, _, rfl, rfl, rfl, rfl, rfl, ?_⟩; omega)); intro K hK) | ((with_reducible refine wpT_ncw ?_ ?_ ?_); (focus (first | exact .inl rfl | exact .inr (wanted_yes _ _ _ rfl rfl rfl))); (focus exact ⟨_, _, rfl, rfl, rfl⟩); intro K hK) | ((with_reducible refine wpT_x0 ?_ ?_ ?_); (focus rfl); (focus rfl); intro K hK) | ((with_reducible refine wpT_q1 ?_ ?_ ?_ ?_); (focus exact wanted_yes _ _ _ rfl rfl rfl); (focus rfl); (focus rfl); intro K hK) | ((with_reducible refine wpT_x1 ?_ ?_ ?_); (focus exact wanted_yes _ _ _ rfl rfl rfl); (focus rfl); intro K hK) | ((with_reducible refine wpT_nil ?_); try dsimp only)
        | fail)
      have hjn := hide (joinE_at (c := r.1) (by have := hn'.out; omega) hall.out (fun h => absurd h (by have := hn'.out; omega)))
      go_wp2_with fail
      generalize wr.drew = wq at *
      have hbxq := hbx2.below hbd hlx2
      have hbrq := hbr2.below hbd hlr2
      have hoq := hide (ho2.out.below hbd)
      have hzq := hbd.size
      have hBq : Below lo w wq := hB2.trans (hbd.mono (by omega))
      clear xx0 xx1 xx2 xf0 xf1 xf2 rr0 rr1 rr2 rr3 rr4
      obtain ⟨xx0, xx1, xx2, xf0, xf1, xf2⟩ := hbxq.cells
      obtain ⟨rr0, rr1, rr2, rr3, rr4, -⟩ := hbrq.cells
      have hlxq := hbxq.lt
      have hlrq := hbrq.lt
      have how := hide (show Own encEnt 5 82 ((wq.alloc (.cells #[.int .i64 r.1, .int .i64 (r.1 - 1), .int .i64 (r.1 - 1), .int .i64 3, .int .i64 0] 82)).drew) lo (.slice A n n) g.1 from (hoq.out.en.alloc _).drew)
      have hA4 : Below wq.heap.size wq ((wq.alloc (.cells #[.int .i64 r.1, .int .i64 (r.1 - 1), .int .i64 (r.1 - 1), .int .i64 3, .int .i64 0] 82)).drew) := ((Below.refl wq.heap.size wq).alloc (Nat.le_refl _) _).drew
      have hv4 := hide (show Sl encEnt 5 ((wq.alloc (.cells #[.int .i64 r.1, .int .i64 (r.1 - 1), .int .i64 (r.1 - 1), .int .i64 3, .int .i64 0] 82)).drew) 0 ((wq.alloc (.cells #[.int .i64 r.1, .int .i64 (r.1 - 1), .int .i64 (r.1 - 1), .int .i64 3, .int .i64 0] 82)).drew).heap.size (some ⟨wq.heap.size, 0, none⟩) [(r.1, r.1 - 1, r.1 - 1, 3, 0)] from (sl_arr encEnt_len wq #[.int .i64 r.1, .int .i64 (r.1 - 1), .int .i64 (r.1 - 1), .int .i64 3, .int .i64 0] 82 [(r.1, r.1 - 1, r.1 - 1, 3, 0)] rfl |>.mono (Nat.zero_le _) (by simp only [World.size_drew, World.size_alloc]; omega)))
      have hz4 : ((wq.alloc (.cells #[.int .i64 r.1, .int .i64 (r.1 - 1), .int .i64 (r.1 - 1), .int .i64 3, .int .i64 0] 82)).drew).heap.size = wq.heap.size + 1 := by simp only [World.size_drew, World.size_alloc]
      have hz4h := hide hz4
      have hlo4 : lo ≤ ((wq.alloc (.cells #[.int .i64 r.1, .int .i64 (r.1 - 1), .int .i64 (r.1 - 1), .int .i64 3, .int .i64 0] 82)).drew).heap.size := by omega
      clear hz4
      have hst4 : Stays w.heap.size wq.heap[w.heap.size]? ((wq.alloc (.cells #[.int .i64 r.1, .int .i64 (r.1 - 1), .int .i64 (r.1 - 1), .int .i64 3, .int .i64 0] 82)).drew) := ⟨hA4.block _ hlrq⟩
      have hwb : ¬ w.heap.size = bx := by omega
      have hst : Stays w.heap.size wq.heap[w.heap.size]? wq := ⟨rfl⟩
      refine wp_region_O (Stays _ _) [35, 37] [46, 48, 58] [51, 53, 54, 56, 57] (Ord.seg [0, 1, 5, 6, 7, 8, 9, 10, 11, 12, 13] (Ord.both 2 14 (Ord.seg [3] (Ord.both 4 14 (Ord.seg [14, 15, 16, 17, 18, 19, 20] Ord.done) (Ord.seg [] (Ord.both 4 15 (Ord.seg [15, 16, 17, 18, 19, 20] Ord.done) (Ord.seg [4, 16, 17, 18, 19, 20] Ord.done))))) (Ord.seg [] (Ord.both 2 15 (Ord.seg [3] (Ord.both 4 15 (Ord.seg [15, 16, 17, 18, 19, 20] Ord.done) (Ord.seg [4, 16, 17, 18, 19, 20] Ord.done))) (Ord.seg [2, 3, 4, 16, 17, 18, 19, 20] Ord.done))))) (by kernel_rfl) (by kernel_rfl) (by kernel_rfl) (Stays.drew hst) ?_
      go_wp2_with (first
        | (go_at_call 68; refine (cloneEnt_c A5 (n + 1) c5 lo w5.heap.size (joinE g.1 r.1) w5 hl5.out (by omega) ho5'.out (Nat.le_refl _)).mono ?_; rintro e w6 ⟨A6, rfl, ho6, hb6⟩; have hbx6 := hbx5.below hb6 hlx5; have hst6 : Stays w.heap.size wq.heap[w.heap.size]? w6 := ⟨(hb6.block _ (by have := hz5; omega)).trans hst5.heap⟩; have hfl6 := hide (hfl5.out.below hb6 (Nat.le_refl _)); have hla6 := hide (hla5.out.below hb6 (Nat.le_refl _)); have hB6 : Below lo w w6 := hB5.trans (hb6.mono (by omega)); have hA6 := hide (fun q hq => (ho6.lt q hq).1); have ho6' := hide ho6; clear xx0 xx1 xx2 xf0 xf1 xf2 ho6; obtain ⟨xx0, xx1, xx2, xf0, xf1, xf2⟩ := hbx6.cells; have hlx6 := hbx6.lt)
        | (go_at_call 71; refine (Insert_c A n lo k g.1 (r.1, r.1 - 1, r.1 - 1, 3, 0) wq.heap.size ((wq.alloc (.cells #[.int .i64 r.1, .int .i64 (r.1 - 1), .int .i64 (r.1 - 1), .int .i64 3, .int .i64 0] 82)).drew) how.out hk hn4 hlo4 hv4.out).mono ?_; rintro e w5 ⟨v5, rfl, ho5, hO5⟩; (rw [← hjn.out] at ho5); obtain ⟨A5, n5, c5, rfl, hn5⟩ := ho5.shape; have hz5 := hO5.size; have hz4' := hz4h.out; have hbx5 : Bx3 w5 bx (.slice A n n) (.slice (some ⟨gB, 0, none⟩) 16 16) (.slice (some ⟨gE, 0, none⟩) 4 4) 35 := (hO5.row (by omega) (fun e => hnA'.out bx e rfl)).trans (hbxq.below hA4 hlxq); have hlx5 := hbx5.lt; have hst5 : Stays w.heap.size wq.heap[w.heap.size]? w5 := ⟨(hO5.row (by omega) (fun e => by have := (hoq.out.en.lt _ e).2; have h9 := (hoH.out.en.lt _ e).2; omega)).trans (hA4.block _ hlrq)⟩; have hgBl := (hoq.out.fl.lt gB rfl); have hgEl := (hoq.out.la.lt gE rfl); have hfl5 := hide (((hoq.out.fl.alloc _).drew).keep (w' := w5) (fun b hb => hO5.row (by simp [Value.ownBlock] at hb; omega) (fun e => hoq.out.ab b e hb))); have hla5 := hide (((hoq.out.la.alloc _).drew).keep (w' := w5) (fun b hb => hO5.row (by simp [Value.ownBlock] at hb; omega) (fun e => hoq.out.ae b e hb))); have hB5 : Below lo w w5 := (hBq.trans (hA4.mono (by omega))).trans (hO5.toBelow (by omega) (fun q hq => (hoq.out.en.lt q hq).1)); have hl5 := hide (show n + 1 = (joinE g.1 r.1).length by rw [hjl.out]); obtain rfl : n5 = n + 1 := (by have := hn5.out; have := hl5.out; omega); have ho5' := hide (ho5.slAt encEnt_len).2.2; have hlo5 : lo ≤ w5.heap.size := (by omega); have hbl5 : bx < w5.heap.size := hlx5)
        | ((with_reducible refine wpO_seg ?_); simp only [pickL, List.toList_toArray, List.getElem?_cons_succ, List.getElem?_cons_zero]) | ((with_reducible refine wpO_both ?_ ?_) <;> simp only [pickL, List.toList_toArray, List.getElem?_cons_succ, List.getElem?_cons_zero]) | ((with_reducible refine wpO_three ?_ ?_ ?_) <;> simp only [pickL, List.toList_toArray, List.getElem?_cons_succ, List.getElem?_cons_zero]) | ((with_reducible refine wpO_done ?_); try dsimp only) | ((with_reducible refine Stays.and_ ?_ ?_; (focus (repeat (first | (with_reducible assumption) | ((with_reducible refine Stays.cell ?_ ?_); rotate_left; (focus (first | (with_reducible assumption) | (simp; done) | (simp; omega)))) | (with_reducible refine Stays.drew ?_) | ((with_reducible refine Stays.alloc ?_ ?_ _); rotate_left; (focus (first | (with_reducible assumption) | omega)))))); intro hS)) | ((with_reducible refine wpT_noL ?_ ?_); (focus (first | exact wanted_no _ _ _ rfl rfl rfl | exact wanted_un _ _ _ rfl rfl rfl)); simp only [setO, List.set_cons_succ, List.set_cons_zero]) | ((with_reducible refine wpT_q0 ?_ ?_ ?_ ?_); (focus rfl); (focus rfl); (focus rfl); intro K hK) | ((with_reducible refine wpT_b ?_ ?_); (focus (exact ⟨_, _, _, _, _, _, _, _, _, rfl, rfl, rfl, rfl, rfl, rfl⟩)); intro K hK) | ((with_reducible refine wpT_ncw ?_ ?_ ?_); (focus (first | exact .inl rfl | exact .inr (wanted_yes _ _ _ rfl rfl rfl))); (focus exact ⟨_, _, rfl, rfl, rfl⟩); intro K hK) | ((with_reducible apply wpT_k); (focus rfl); (focus rfl); (focus rfl); (focus rfl); (focus (first | assumption | exact Stays.drew (by assumption))); (focus rfl); (focus go_simp); intro K hK) | ((with_reducible refine wpT_xs0 ?_ ?_ ?_); (focus rfl); (focus rfl); intro K hK) | ((with_reducible refine wpT_q1 ?_ ?_ ?_ ?_); (focus exact wanted_yes _ _ _ rfl rfl rfl); (focus rfl); (focus rfl); intro K hK) | ((with_reducible refine wpT_xs1 ?_ ?_ ?_); (focus exact wanted_yes _ _ _ rfl rfl rfl); (focus rfl); intro K hK) | ((with_reducible refine wpT_nil ?_); try dsimp only)
        | fail)
      all_goals
        go_ret
        rw [hh.out]
        have hP : ActPost bx lo gB gE w ((joinE g.1 r.1, g.2.1, g.2.2), 0) (.returned (.int .i64 0)) (w6.setCell ⟨bx, 0, none⟩ (.slice A6 (n + 1) (n + 1))) :=
          ⟨A6, n + 1, rfl, hbx6.set0 _, ⟨(ho6'.out.mono (by omega)).keep (fun b hb => ne_set _ (by have := hA6.out b hb; omega)), hfl6.out.keep (fun b hb => ne_set _ (by simp [Value.ownBlock] at hb; omega)), hla6.out.keep (fun b hb => ne_set _ (by simp [Value.ownBlock] at hb; omega)),
            fun b hb h2 => by have := hA6.out b hb; simp [Value.ownBlock] at h2; omega, fun b hb h2 => by have := hA6.out b hb; simp [Value.ownBlock] at h2; omega, fun b hb h2 => ho2.out.be b hb h2⟩, fun b hb => by have := hA6.out b hb; omega, hB6.setCell (p := ⟨bx, 0, none⟩) hlo _⟩
        (repeat (first | exact hP | refine ActPost.dr ?_))
end Go.Proofs.YtajmfonepnkofaaDoor
