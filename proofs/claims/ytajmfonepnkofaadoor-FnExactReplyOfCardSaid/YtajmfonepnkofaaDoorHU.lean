/-
  'act' (the program's game): take, far ones, give. (Printed by gen_hu.py.)
  Conditions: none.
-/
import Derived.Test.YtajmfonepnkofaaDoorHT
namespace Go.Proofs.YtajmfonepnkofaaDoor
open Go.RowKit Rg
set_option linter.unusedVariables false
set_option linter.unusedSimpArgs false

theorem behG_act {g : GameT} {r : AskT} {k : Nat} (hfi : figI g.1 r.1 = some k) (hop : r.2.2.1 ≠ 1) : behG g r = actG g k r := by unfold behG; rw [hfi]; dsimp only; rw [if_neg hop]
theorem actG_far_none {g : GameT} {r : AskT} (k : Nat) (h2 : r.2.2.1 ≠ 2) (h3 : r.2.2.1 ≠ 3) (hf : figI g.1 r.2.2.2.1 = none) : actG g k r = (g, 8) := by
  unfold actG; dsimp only; rw [if_neg h2, if_neg h3, hf]
theorem actG_some {g : GameT} {r : AskT} (k : Nat) (h2 : r.2.2.1 ≠ 2) (h3 : r.2.2.1 ≠ 3) {i : Nat} (hf : figI g.1 r.2.2.2.1 = some i) : actG g k r = other g k i r := by
  unfold actG; dsimp only; rw [if_neg h2, if_neg h3, hf]
theorem other_far {g : GameT} {r : AskT} {k i : Nat} (hk : k < g.1.length) (hi : i < g.1.length) (h : i = k ∨ ¬ nearE g.1[k] g.1[i]) : other g k i r = (g, 8) := by
  unfold other; dsimp only; rw [getD_at hk, getD_at hi, if_pos h]
theorem other_give {g : GameT} {r : AskT} {k i : Nat} (hk : k < g.1.length) (hi : i < g.1.length) (hne : i ≠ k) (hn : nearE g.1[k] g.1[i]) (h5 : r.2.2.1 = 5) : other g k i r = if g.1[k].2.2.2.2 < r.2.2.2.2 then (g, 7) else (((g.1.set i (entG g.1[i] r.2.2.2.2)).set k (entG g.1[k] (- r.2.2.2.2)), g.2.1, g.2.2), 0) := by
  unfold other; dsimp only; rw [getD_at hk, getD_at hi, if_neg (by rintro (h | h); exact hne h; exact h hn), if_pos h5]
theorem other_hit {g : GameT} {r : AskT} {k i : Nat} (hk : k < g.1.length) (hi : i < g.1.length) (hne : i ≠ k) (hn : nearE g.1[k] g.1[i]) (h5 : r.2.2.1 ≠ 5) : other g k i r = if g.1[i].2.2.2.1 - 1 ≤ 0 then ((g.1.eraseIdx i, g.2.1.set (sqr g.1[i]) (g.2.1.getD (sqr g.1[i]) 0 + g.1[i].2.2.2.2), g.2.2), 0) else ((g.1.set i (hitE g.1[i]), g.2.1, g.2.2), 0) := by
  unfold other; dsimp only; rw [getD_at hk, getD_at hi, if_neg (by rintro (h | h); exact hne h; exact h hn), if_neg h5]

set_option maxRecDepth 100000 in
set_option maxHeartbeats 2000000 in
theorem actTake (bx lo gB gE : Nat) (A : Option Addr) (n : Nat) (g : GameT) (r : AskT) (w : World) (hbx : Bx3 w bx (.slice A n n) (.slice (some ⟨gB, 0, none⟩) 16 16) (.slice (some ⟨gE, 0, none⟩) 4 4) 35) (ho : GmO w lo A n n (some ⟨gB, 0, none⟩) 16 16 (some ⟨gE, 0, none⟩) 4 4 g)
    (hlo : lo ≤ bx) (hnA : ∀ k, (Value.slice A n n).ownBlock = some k → k ≠ bx) (hnB : gB ≠ bx) (hnE : gE ≠ bx) (hok : okG' g) (hr : okA r) (k : Nat) (hfi : figI g.1 r.1 = some k) (hop : r.2.2.1 = 3) :
    Calls Tryd.prog 44 #[.pointer (some ⟨bx, 0, none⟩), .agg #[.int .i64 r.1, .int .i64 r.2.1, .int .i64 r.2.2.1, .int .i64 r.2.2.2.1, .int .i64 r.2.2.2.2]] w fun e w' => ActPost bx lo gB gE w (behG g r) e w' := by
  have hA1 := (Below.refl w.heap.size w).alloc (Nat.le_refl _) (.cells #[.int .i64 r.1, .int .i64 r.2.1, .int .i64 r.2.2.1, .int .i64 r.2.2.2.1, .int .i64 r.2.2.2.2] 37)
  have hbr1 := Bx5.made w r 37
  have hbx1 := hbx.below hA1 hbx.lt
  have ho1 := hide (ho.below hA1)
  have hz1 : w.heap.size + 1 ≤ (w.alloc (.cells #[.int .i64 r.1, .int .i64 r.2.1, .int .i64 r.2.2.1, .int .i64 r.2.2.2.1, .int .i64 r.2.2.2.2] 37)).heap.size := by simp only [World.size_alloc]; omega
  have hbl := hbx.lt
  obtain ⟨xx0, xx1, xx2, xf0, xf1, xf2⟩ := hbx1.cells
  obtain ⟨rr0, rr1, rr2, rr3, rr4, -⟩ := hbr1.cells
  have hlx := hbx1.lt
  have hlr := hbr1.lt
  have hn' := hide ho.en.lenEq
  have hn4 : n ≤ 4 := by
    have h3 := inc_len hok.inc (fun e he => (hok.ent e he).1)
    have := hn'.out
    omega
  have hok' := hide hok
  have hrH := hide hr
  have hnA' := hide hnA
  have hoH := hide ho
  clear hok hr ho hbx hnA
  have hq1 : (r.2.2.1 == 1) = false := by simp [hop]
  have hq2 : (r.2.2.1 == 2) = false := by simp [hop]
  have hq3 : (r.2.2.1 == 3) = true := by simp [hop]
  have hopp := hide hop
  clear hop
  have hk := figI_lt hfi
  have hkn : k < n := by have := hn'.out; omega
  obtain ⟨gA, rfl, hgA1, hgA2⟩ := ho1.out.en.addrAt (show 0 < n by omega)
  have hAx : gA ≠ bx := hnA'.out gA rfl
  obtain ⟨hAB, hAE, hBE⟩ := ho1.out.sep
  have hAw := (hoH.out.en.lt gA rfl).2
  have hBw := (hoH.out.fl.lt gB rfl).2
  have hAw1 : ¬ w.heap.size = gA := by omega
  have hAw2 : ¬ gA = w.heap.size := by omega
  have hBw1 : ¬ w.heap.size = gB := by omega
  have hBw2 : ¬ gB = w.heap.size := by omega
  have hek := (okG'.full hok'.out).ent _ (List.getElem_mem hk)
  unfold entOk rng at hek
  have hk0 : decide ((k : Int) < 0) = false := by simp <;> omega
  have hsl : sqr g.1[k] < g.2.1.length := by have h16 := hok'.out.n16; unfold sqr; omega
  have hfl := (okG'.full hok'.out).flo _ (List.getElem_mem hsl)
  unfold rng at hfl
  have hgd := hide (getD_at hsl (0 : Int))
  obtain ⟨sq, hsq⟩ : ∃ s, s = sqr g.1[k] := ⟨_, rfl⟩
  have hsqe := hide hsq.symm
  have hsl : sq < g.2.1.length := by rw [hsq]; exact hsl
  have hgd2 := hide (show g.2.1.getD (sqr g.1[k]) 0 = g.2.1[sq] by rw [hsqe.out]; exact getD_at hsl 0)
  have hfl : 0 ≤ g.2.1[sq] ∧ g.2.1[sq] ≤ 20 := (okG'.full hok'.out).flo _ (List.getElem_mem hsl)
  clear hsq hgd
  cases e1 : (g.2.1[sq] == 0)
  · have hh := hide (show behG g r = ((g.1.set k (g.1[k].1, g.1[k].2.1, g.1[k].2.2.1, g.1[k].2.2.2.1, g.1[k].2.2.2.2 + 1), g.2.1.set sq (g.2.1[sq] - 1), g.2.2), 0) by
      have h0 : ¬ g.2.1[sq] = 0 := by simpa using e1
      rw [behG_act hfi (by have := hopp.out; omega)]
      unfold actG; dsimp only
      rw [if_neg (by have := hopp.out; omega), if_pos hopp.out, getD_at hk, hgd2.out, if_neg h0, hsqe.out]
      rfl)
    go_enter Tryd.func44, Tryd.ntmps44
    go_wp2
    generalize w.alloc (.cells #[.int .i64 r.1, .int .i64 r.2.1, .int .i64 r.2.2.1, .int .i64 r.2.2.2.1, .int .i64 r.2.2.2.2] 37) = w1 at *
    refine wp_region_T (fun _ => True) [] [] [] [0, 1, 2, 3, 4, 5, 6] (by kernel_rfl) (by kernel_rfl) (by kernel_rfl) trivial ?_; simp only [pickL, List.getElem?_cons_succ, List.getElem?_cons_zero]
    go_wp2_with (first
      | (go_at_call 70; refine (figure_some _ n n (some ⟨gB, 0, none⟩) 16 16 (some ⟨gE, 0, none⟩) 4 4 lo w1.heap.size r.1 g.1 w1.drew (show RdN 5 (flatR encEnt) w1.drew lo w1.heap.size _ n n g.1 from Own.rdn (w := w1.drew) encEnt_len ho1.out.en.drew) (Nat.le_refl _) k hfi).mono ?_; rintro e w2 ⟨rfl, hb2⟩; have hb12 : Below w1.heap.size w1 w2 := Below.appR (Below.drew (Below.refl _ _)) hb2; have hbx2 := hbx1.below hb12 hlx; have hbr2 := hbr1.below hb12 hlr; have ho2 := hide (ho1.out.below hb12); have hz2 := hb12.size; have hB2 : Below lo w w2 := (hA1.mono (by omega)).trans (hb12.mono (by omega)); clear xx0 xx1 xx2 xf0 xf1 xf2 rr0 rr1 rr2 rr3 rr4; obtain ⟨xx0, xx1, xx2, xf0, xf1, xf2⟩ := hbx2.cells; obtain ⟨rr0, rr1, rr2, rr3, rr4, -⟩ := hbr2.cells; have hlx2 := hbx2.lt; have hlr2 := hbr2.lt)
      | ((with_reducible refine wpT_noL ?_ ?_); (focus (first | exact wanted_no _ _ _ rfl rfl rfl | exact wanted_un _ _ _ rfl rfl rfl)); simp only [setO, List.set_cons_succ, List.set_cons_zero]) | ((with_reducible refine wpT_q0 ?_ ?_ ?_ ?_); (focus rfl); (focus rfl); (focus rfl); intro K hK) | ((with_reducible refine wpT_i ?_ ?_); (focus (refine ⟨_, _, _, _, _, _, _, _, rfl, rfl, rfl, rfl, rfl, ?_⟩; omega)); intro K hK) | ((with_reducible refine wpT_ncw ?_ ?_ ?_); (focus (first | exact .inl rfl | exact .inr (wanted_yes _ _ _ rfl rfl rfl))); (focus exact ⟨_, _, rfl, rfl, rfl⟩); intro K hK) | ((with_reducible refine wpT_x0 ?_ ?_ ?_); (focus rfl); (focus rfl); intro K hK) | ((with_reducible refine wpT_q1 ?_ ?_ ?_ ?_); (focus exact wanted_yes _ _ _ rfl rfl rfl); (focus rfl); (focus rfl); intro K hK) | ((with_reducible refine wpT_x1 ?_ ?_ ?_); (focus exact wanted_yes _ _ _ rfl rfl rfl); (focus rfl); intro K hK) | ((with_reducible refine wpT_nil ?_); try dsimp only)
      | fail)
    obtain ⟨d0, d1, d2, d3, d4⟩ := (ho2.out.en.slAt encEnt_len).2.2.getEnt hk
    simp only [Nat.zero_add] at d0 d1 d2 d3 d4
    have df0 := ho2.out.en.frozen (k * 5)
    have df1 := ho2.out.en.frozen (k * 5 + 1)
    have df2 := ho2.out.en.frozen (k * 5 + 2)
    have df3 := ho2.out.en.frozen (k * 5 + 3)
    have df4 := ho2.out.en.frozen (k * 5 + 4)
    have hgA3 := (ho2.out.en.lt gA rfl).2
    go_wp2
    refine wp_region_T (fun _ => True) [] [] [] [0, 1, 2, 3, 4, 5, 6, 7] (by kernel_rfl) (by kernel_rfl) (by kernel_rfl) trivial ?_; simp only [pickL, List.getElem?_cons_succ, List.getElem?_cons_zero]
    go_wp2_with (first
      | (go_at_call 72; refine (floor0_c (some ⟨gA, 0, none⟩) n n gB 16 (some ⟨gE, 0, none⟩) 4 4 g.1[k] _ ⟨hek.2.1, hek.2.2.1⟩ sq hsqe.out).mono ?_; rintro e w3 ⟨rfl, hb3⟩; have hb23 : Below w2.heap.size w2 w3 := Below.appR (Below.drew (Below.refl _ _)) hb3; have hbx3 := hbx2.below hb23 hlx2; have hbr3 := hbr2.below hb23 hlr2; have ho3 := hide (ho2.out.below hb23); have hz3 := hb23.size; have hB3 : Below lo w w3 := hB2.trans (hb23.mono (by omega)); clear xx0 xx1 xx2 xf0 xf1 xf2 rr0 rr1 rr2 rr3 rr4; obtain ⟨xx0, xx1, xx2, xf0, xf1, xf2⟩ := hbx3.cells; obtain ⟨rr0, rr1, rr2, rr3, rr4, -⟩ := hbr3.cells; have hlx3 := hbx3.lt; have hlr3 := hbr3.lt; clear d0 d1 d2 d3 d4 df0 df1 df2 df3 df4; obtain ⟨d0, d1, d2, d3, d4⟩ := (ho3.out.en.slAt encEnt_len).2.2.getEnt hk; simp only [Nat.zero_add] at d0 d1 d2 d3 d4; have df0 := ho3.out.en.frozen (k * 5); have df1 := ho3.out.en.frozen (k * 5 + 1); have df2 := ho3.out.en.frozen (k * 5 + 2); have df3 := ho3.out.en.frozen (k * 5 + 3); have df4 := ho3.out.en.frozen (k * 5 + 4); have hq0 := (ho3.out.fl.slAt encI_len).2.2.i64 hsl; (simp only [Nat.zero_add] at hq0); have hqf := ho3.out.fl.frozen sq; have hgB3 := (ho3.out.fl.lt gB rfl).2; have hgA4 := (ho3.out.en.lt gA rfl).2)
      | ((with_reducible refine wpT_noL ?_ ?_); (focus (first | exact wanted_no _ _ _ rfl rfl rfl | exact wanted_un _ _ _ rfl rfl rfl)); simp only [setO, List.set_cons_succ, List.set_cons_zero]) | ((with_reducible refine wpT_q0 ?_ ?_ ?_ ?_); (focus rfl); (focus rfl); (focus rfl); intro K hK) | ((with_reducible refine wpT_i ?_ ?_); (focus (refine ⟨_, _, _, _, _, _, _, _, rfl, rfl, rfl, rfl, rfl, ?_⟩; omega)); intro K hK) | ((with_reducible refine wpT_ncw ?_ ?_ ?_); (focus (first | exact .inl rfl | exact .inr (wanted_yes _ _ _ rfl rfl rfl))); (focus exact ⟨_, _, rfl, rfl, rfl⟩); intro K hK) | ((with_reducible refine wpT_x0 ?_ ?_ ?_); (focus rfl); (focus rfl); intro K hK) | ((with_reducible refine wpT_q1 ?_ ?_ ?_ ?_); (focus exact wanted_yes _ _ _ rfl rfl rfl); (focus rfl); (focus rfl); intro K hK) | ((with_reducible refine wpT_x1 ?_ ?_ ?_); (focus exact wanted_yes _ _ _ rfl rfl rfl); (focus rfl); intro K hK) | ((with_reducible refine wpT_nil ?_); try dsimp only)
      | fail)
    go_ret
    rw [hh.out]
    have hp1 := ho3.out.putF hsl (g.2.1[sq] - 1)
    have hp2 := hp1.putE hk (g.1[k].1, g.1[k].2.1, g.1[k].2.2.1, g.1[k].2.2.2.1, g.1[k].2.2.2.2 + 1) 4 (by omega) (.int .i64 (g.1[k].2.2.2.2 + 1)) rfl
    have hb9 := (hbx3.keep (ne_set (i := sq) (.int .i64 (g.2.1[sq] - 1)) (Ne.symm hnB))).keep (ne_set (i := k * 5 + 4) (.int .i64 (g.1[k].2.2.2.2 + 1)) (Ne.symm hAx))
    have hgBl := (ho3.out.fl.lt gB rfl).1
    have hP : ActPost bx lo gB gE w ((g.1.set k (g.1[k].1, g.1[k].2.1, g.1[k].2.2.1, g.1[k].2.2.2.1, g.1[k].2.2.2.2 + 1), g.2.1.set sq (g.2.1[sq] - 1), g.2.2), 0) (.returned (.int .i64 0)) ((w3.setCell ⟨gB, sq, none⟩ (.int .i64 (g.2.1[sq] - 1))).setCell ⟨gA, k * 5 + 4, none⟩ (.int .i64 (g.1[k].2.2.2.2 + 1))) :=
      ⟨some ⟨gA, 0, none⟩, n, rfl, hb9, hp2, hnA'.out, (hB3.setCell (p := ⟨gB, sq, none⟩) hgBl _).setCell (p := ⟨gA, k * 5 + 4, none⟩) hgA1 _⟩
    (repeat (first | exact hP | refine ActPost.dr ?_))
  · have hh := hide (show behG g r = (g, 7) by
      have h0 : g.2.1[sq] = 0 := by simpa using e1
      rw [behG_act hfi (by have := hopp.out; omega)]
      unfold actG; dsimp only
      rw [if_neg (by have := hopp.out; omega), if_pos hopp.out, getD_at hk, hgd2.out, if_pos h0])
    go_enter Tryd.func44, Tryd.ntmps44
    go_wp2
    generalize w.alloc (.cells #[.int .i64 r.1, .int .i64 r.2.1, .int .i64 r.2.2.1, .int .i64 r.2.2.2.1, .int .i64 r.2.2.2.2] 37) = w1 at *
    refine wp_region_T (fun _ => True) [] [] [] [0, 1, 2, 3, 4, 5, 6] (by kernel_rfl) (by kernel_rfl) (by kernel_rfl) trivial ?_; simp only [pickL, List.getElem?_cons_succ, List.getElem?_cons_zero]
    go_wp2_with (first
      | (go_at_call 70; refine (figure_some _ n n (some ⟨gB, 0, none⟩) 16 16 (some ⟨gE, 0, none⟩) 4 4 lo w1.heap.size r.1 g.1 w1.drew (show RdN 5 (flatR encEnt) w1.drew lo w1.heap.size _ n n g.1 from Own.rdn (w := w1.drew) encEnt_len ho1.out.en.drew) (Nat.le_refl _) k hfi).mono ?_; rintro e w2 ⟨rfl, hb2⟩; have hb12 : Below w1.heap.size w1 w2 := Below.appR (Below.drew (Below.refl _ _)) hb2; have hbx2 := hbx1.below hb12 hlx; have hbr2 := hbr1.below hb12 hlr; have ho2 := hide (ho1.out.below hb12); have hz2 := hb12.size; have hB2 : Below lo w w2 := (hA1.mono (by omega)).trans (hb12.mono (by omega)); clear xx0 xx1 xx2 xf0 xf1 xf2 rr0 rr1 rr2 rr3 rr4; obtain ⟨xx0, xx1, xx2, xf0, xf1, xf2⟩ := hbx2.cells; obtain ⟨rr0, rr1, rr2, rr3, rr4, -⟩ := hbr2.cells; have hlx2 := hbx2.lt; have hlr2 := hbr2.lt)
      | ((with_reducible refine wpT_noL ?_ ?_); (focus (first | exact wanted_no _ _ _ rfl rfl rfl | exact wanted_un _ _ _ rfl rfl rfl)); simp only [setO, List.set_cons_succ, List.set_cons_zero]) | ((with_reducible refine wpT_q0 ?_ ?_ ?_ ?_); (focus rfl); (focus rfl); (focus rfl); intro K hK) | ((with_reducible refine wpT_i ?_ ?_); (focus (refine ⟨_, _, _, _, _, _, _, _, rfl, rfl, rfl, rfl, rfl, ?_⟩; omega)); intro K hK) | ((with_reducible refine wpT_ncw ?_ ?_ ?_); (focus (first | exact .inl rfl | exact .inr (wanted_yes _ _ _ rfl rfl rfl))); (focus exact ⟨_, _, rfl, rfl, rfl⟩); intro K hK) | ((with_reducible refine wpT_x0 ?_ ?_ ?_); (focus rfl); (focus rfl); intro K hK) | ((with_reducible refine wpT_q1 ?_ ?_ ?_ ?_); (focus exact wanted_yes _ _ _ rfl rfl rfl); (focus rfl); (focus rfl); intro K hK) | ((with_reducible refine wpT_x1 ?_ ?_ ?_); (focus exact wanted_yes _ _ _ rfl rfl rfl); (focus rfl); intro K hK) | ((with_reducible refine wpT_nil ?_); try dsimp only)
      | fail)
    obtain ⟨d0, d1, d2, d3, d4⟩ := (ho2.out.en.slAt encEnt_len).2.2.getEnt hk
    simp only [Nat.zero_add] at d0 d1 d2 d3 d4
    have df0 := ho2.out.en.frozen (k * 5)
    have df1 := ho2.out.en.frozen (k * 5 + 1)
    have df2 := ho2.out.en.frozen (k * 5 + 2)
    have df3 := ho2.out.en.frozen (k * 5 + 3)
    have df4 := ho2.out.en.frozen (k * 5 + 4)
    have hgA3 := (ho2.out.en.lt gA rfl).2
    go_wp2
    refine wp_region_T (fun _ => True) [] [] [] [0, 1, 2, 3, 4, 5, 6, 7] (by kernel_rfl) (by kernel_rfl) (by kernel_rfl) trivial ?_; simp only [pickL, List.getElem?_cons_succ, List.getElem?_cons_zero]
    go_wp2_with (first
      | (go_at_call 72; refine (floor0_c (some ⟨gA, 0, none⟩) n n gB 16 (some ⟨gE, 0, none⟩) 4 4 g.1[k] _ ⟨hek.2.1, hek.2.2.1⟩ sq hsqe.out).mono ?_; rintro e w3 ⟨rfl, hb3⟩; have hb23 : Below w2.heap.size w2 w3 := Below.appR (Below.drew (Below.refl _ _)) hb3; have hbx3 := hbx2.below hb23 hlx2; have hbr3 := hbr2.below hb23 hlr2; have ho3 := hide (ho2.out.below hb23); have hz3 := hb23.size; have hB3 : Below lo w w3 := hB2.trans (hb23.mono (by omega)); clear xx0 xx1 xx2 xf0 xf1 xf2 rr0 rr1 rr2 rr3 rr4; obtain ⟨xx0, xx1, xx2, xf0, xf1, xf2⟩ := hbx3.cells; obtain ⟨rr0, rr1, rr2, rr3, rr4, -⟩ := hbr3.cells; have hlx3 := hbx3.lt; have hlr3 := hbr3.lt; clear d0 d1 d2 d3 d4 df0 df1 df2 df3 df4; obtain ⟨d0, d1, d2, d3, d4⟩ := (ho3.out.en.slAt encEnt_len).2.2.getEnt hk; simp only [Nat.zero_add] at d0 d1 d2 d3 d4; have df0 := ho3.out.en.frozen (k * 5); have df1 := ho3.out.en.frozen (k * 5 + 1); have df2 := ho3.out.en.frozen (k * 5 + 2); have df3 := ho3.out.en.frozen (k * 5 + 3); have df4 := ho3.out.en.frozen (k * 5 + 4); have hq0 := (ho3.out.fl.slAt encI_len).2.2.i64 hsl; (simp only [Nat.zero_add] at hq0); have hqf := ho3.out.fl.frozen sq; have hgB3 := (ho3.out.fl.lt gB rfl).2; have hgA4 := (ho3.out.en.lt gA rfl).2)
      | ((with_reducible refine wpT_noL ?_ ?_); (focus (first | exact wanted_no _ _ _ rfl rfl rfl | exact wanted_un _ _ _ rfl rfl rfl)); simp only [setO, List.set_cons_succ, List.set_cons_zero]) | ((with_reducible refine wpT_q0 ?_ ?_ ?_ ?_); (focus rfl); (focus rfl); (focus rfl); intro K hK) | ((with_reducible refine wpT_i ?_ ?_); (focus (refine ⟨_, _, _, _, _, _, _, _, rfl, rfl, rfl, rfl, rfl, ?_⟩; omega)); intro K hK) | ((with_reducible refine wpT_ncw ?_ ?_ ?_); (focus (first | exact .inl rfl | exact .inr (wanted_yes _ _ _ rfl rfl rfl))); (focus exact ⟨_, _, rfl, rfl, rfl⟩); intro K hK) | ((with_reducible refine wpT_x0 ?_ ?_ ?_); (focus rfl); (focus rfl); intro K hK) | ((with_reducible refine wpT_q1 ?_ ?_ ?_ ?_); (focus exact wanted_yes _ _ _ rfl rfl rfl); (focus rfl); (focus rfl); intro K hK) | ((with_reducible refine wpT_x1 ?_ ?_ ?_); (focus exact wanted_yes _ _ _ rfl rfl rfl); (focus rfl); intro K hK) | ((with_reducible refine wpT_nil ?_); try dsimp only)
      | fail)
    go_ret
    rw [hh.out]
    have hP := ActPost.same 7 hbx3 ho3.out hnA'.out hB3
    (repeat (first | exact hP | refine ActPost.dr ?_))

set_option maxRecDepth 100000 in
set_option maxHeartbeats 2000000 in
theorem actFarNone (bx lo gB gE : Nat) (A : Option Addr) (n : Nat) (g : GameT) (r : AskT) (w : World) (hbx : Bx3 w bx (.slice A n n) (.slice (some ⟨gB, 0, none⟩) 16 16) (.slice (some ⟨gE, 0, none⟩) 4 4) 35) (ho : GmO w lo A n n (some ⟨gB, 0, none⟩) 16 16 (some ⟨gE, 0, none⟩) 4 4 g)
    (hlo : lo ≤ bx) (hnA : ∀ k, (Value.slice A n n).ownBlock = some k → k ≠ bx) (hnB : gB ≠ bx) (hnE : gE ≠ bx) (hok : okG' g) (hr : okA r) (k : Nat) (hfi : figI g.1 r.1 = some k) (hop : r.2.2.1 = 4 ∨ r.2.2.1 = 5) (hfj : figI g.1 r.2.2.2.1 = none) :
    Calls Tryd.prog 44 #[.pointer (some ⟨bx, 0, none⟩), .agg #[.int .i64 r.1, .int .i64 r.2.1, .int .i64 r.2.2.1, .int .i64 r.2.2.2.1, .int .i64 r.2.2.2.2]] w fun e w' => ActPost bx lo gB gE w (behG g r) e w' := by
  have hA1 := (Below.refl w.heap.size w).alloc (Nat.le_refl _) (.cells #[.int .i64 r.1, .int .i64 r.2.1, .int .i64 r.2.2.1, .int .i64 r.2.2.2.1, .int .i64 r.2.2.2.2] 37)
  have hbr1 := Bx5.made w r 37
  have hbx1 := hbx.below hA1 hbx.lt
  have ho1 := hide (ho.below hA1)
  have hz1 : w.heap.size + 1 ≤ (w.alloc (.cells #[.int .i64 r.1, .int .i64 r.2.1, .int .i64 r.2.2.1, .int .i64 r.2.2.2.1, .int .i64 r.2.2.2.2] 37)).heap.size := by simp only [World.size_alloc]; omega
  have hbl := hbx.lt
  obtain ⟨xx0, xx1, xx2, xf0, xf1, xf2⟩ := hbx1.cells
  obtain ⟨rr0, rr1, rr2, rr3, rr4, -⟩ := hbr1.cells
  have hlx := hbx1.lt
  have hlr := hbr1.lt
  have hn' := hide ho.en.lenEq
  have hn4 : n ≤ 4 := by
    have h3 := inc_len hok.inc (fun e he => (hok.ent e he).1)
    have := hn'.out
    omega
  have hok' := hide hok
  have hrH := hide hr
  have hnA' := hide hnA
  have hoH := hide ho
  clear hok hr ho hbx hnA
  have hq1 : (r.2.2.1 == 1) = false := by simp <;> omega
  have hq2 : (r.2.2.1 == 2) = false := by simp <;> omega
  have hq3 : (r.2.2.1 == 3) = false := by simp <;> omega
  have hbe := hide (behG_act hfi (show r.2.2.1 ≠ 1 by omega))
  have hh := hide (show behG g r = (g, 8) by rw [hbe.out]; exact actG_far_none k (by omega) (by omega) hfj)
  clear hop
  have hk := figI_lt hfi
  have hkn : k < n := by have := hn'.out; omega
  obtain ⟨gA, rfl, hgA1, hgA2⟩ := ho1.out.en.addrAt (show 0 < n by omega)
  have hAx : gA ≠ bx := hnA'.out gA rfl
  obtain ⟨hAB, hAE, hBE⟩ := ho1.out.sep
  have hAw := (hoH.out.en.lt gA rfl).2
  have hBw := (hoH.out.fl.lt gB rfl).2
  have hAw1 : ¬ w.heap.size = gA := by omega
  have hAw2 : ¬ gA = w.heap.size := by omega
  have hBw1 : ¬ w.heap.size = gB := by omega
  have hBw2 : ¬ gB = w.heap.size := by omega
  have hek := (okG'.full hok'.out).ent _ (List.getElem_mem hk)
  unfold entOk rng at hek
  have hk0 : decide ((k : Int) < 0) = false := by simp <;> omega
  go_enter Tryd.func44, Tryd.ntmps44
  go_wp2
  generalize w.alloc (.cells #[.int .i64 r.1, .int .i64 r.2.1, .int .i64 r.2.2.1, .int .i64 r.2.2.2.1, .int .i64 r.2.2.2.2] 37) = w1 at *
  refine wp_region_T (fun _ => True) [] [] [] [0, 1, 2, 3, 4, 5, 6] (by kernel_rfl) (by kernel_rfl) (by kernel_rfl) trivial ?_; simp only [pickL, List.getElem?_cons_succ, List.getElem?_cons_zero]
  go_wp2_with (first
    | (go_at_call 70; refine (figure_some _ n n (some ⟨gB, 0, none⟩) 16 16 (some ⟨gE, 0, none⟩) 4 4 lo w1.heap.size r.1 g.1 w1.drew (show RdN 5 (flatR encEnt) w1.drew lo w1.heap.size _ n n g.1 from Own.rdn (w := w1.drew) encEnt_len ho1.out.en.drew) (Nat.le_refl _) k hfi).mono ?_; rintro e w2 ⟨rfl, hb2⟩; have hb12 : Below w1.heap.size w1 w2 := Below.appR (Below.drew (Below.refl _ _)) hb2; have hbx2 := hbx1.below hb12 hlx; have hbr2 := hbr1.below hb12 hlr; have ho2 := hide (ho1.out.below hb12); have hz2 := hb12.size; have hB2 : Below lo w w2 := (hA1.mono (by omega)).trans (hb12.mono (by omega)); clear xx0 xx1 xx2 xf0 xf1 xf2 rr0 rr1 rr2 rr3 rr4; obtain ⟨xx0, xx1, xx2, xf0, xf1, xf2⟩ := hbx2.cells; obtain ⟨rr0, rr1, rr2, rr3, rr4, -⟩ := hbr2.cells; have hlx2 := hbx2.lt; have hlr2 := hbr2.lt)
    | ((with_reducible refine wpT_noL ?_ ?_); (focus (first | exact wanted_no _ _ _ rfl rfl rfl | exact wanted_un _ _ _ rfl rfl rfl)); simp only [setO, List.set_cons_succ, List.set_cons_zero]) | ((with_reducible refine wpT_q0 ?_ ?_ ?_ ?_); (focus rfl); (focus rfl); (focus rfl); intro K hK) | ((with_reducible refine wpT_i ?_ ?_); (focus (refine ⟨_, _, _, _, _, _, _, _, rfl, rfl, rfl, rfl, rfl, ?_⟩; omega)); intro K hK) | ((with_reducible refine wpT_ncw ?_ ?_ ?_); (focus (first | exact .inl rfl | exact .inr (wanted_yes _ _ _ rfl rfl rfl))); (focus exact ⟨_, _, rfl, rfl, rfl⟩); intro K hK) | ((with_reducible refine wpT_x0 ?_ ?_ ?_); (focus rfl); (focus rfl); intro K hK) | ((with_reducible refine wpT_q1 ?_ ?_ ?_ ?_); (focus exact wanted_yes _ _ _ rfl rfl rfl); (focus rfl); (focus rfl); intro K hK) | ((with_reducible refine wpT_x1 ?_ ?_ ?_); (focus exact wanted_yes _ _ _ rfl rfl rfl); (focus rfl); intro K hK) | ((with_reducible refine wpT_nil ?_); try dsimp only)
    | fail)
  obtain ⟨d0, d1, d2, d3, d4⟩ := (ho2.out.en.slAt encEnt_len).2.2.getEnt hk
  simp only [Nat.zero_add] at d0 d1 d2 d3 d4
  have df0 := ho2.out.en.frozen (k * 5)
  have df1 := ho2.out.en.frozen (k * 5 + 1)
  have df2 := ho2.out.en.frozen (k * 5 + 2)
  have df3 := ho2.out.en.frozen (k * 5 + 3)
  have df4 := ho2.out.en.frozen (k * 5 + 4)
  have hgA3 := (ho2.out.en.lt gA rfl).2
  go_wp2
  refine wp_region_T (fun _ => True) [] [] [] [0, 1, 2, 3, 4, 5, 6] (by kernel_rfl) (by kernel_rfl) (by kernel_rfl) trivial ?_; simp only [pickL, List.getElem?_cons_succ, List.getElem?_cons_zero]
  go_wp2_with (first
    | (go_at_call 70; refine (figure_none (some ⟨gA, 0, none⟩) n n (some ⟨gB, 0, none⟩) 16 16 (some ⟨gE, 0, none⟩) 4 4 lo w2.heap.size r.2.2.2.1 g.1 w2.drew (show RdN 5 (flatR encEnt) w2.drew lo w2.heap.size (some ⟨gA, 0, none⟩) n n g.1 from Own.rdn (w := w2.drew) encEnt_len ho2.out.en.drew) (Nat.le_refl _) hfj).mono ?_; rintro e w3 ⟨rfl, hb3⟩; have hb23 : Below w2.heap.size w2 w3 := Below.appR (Below.drew (Below.refl _ _)) hb3; have hbx3 := hbx2.below hb23 hlx2; have hbr3 := hbr2.below hb23 hlr2; have ho3 := hide (ho2.out.below hb23); have hz3 := hb23.size; have hB3 : Below lo w w3 := hB2.trans (hb23.mono (by omega)); clear xx0 xx1 xx2 xf0 xf1 xf2 rr0 rr1 rr2 rr3 rr4; obtain ⟨xx0, xx1, xx2, xf0, xf1, xf2⟩ := hbx3.cells; obtain ⟨rr0, rr1, rr2, rr3, rr4, -⟩ := hbr3.cells; have hlx3 := hbx3.lt; have hlr3 := hbr3.lt; clear d0 d1 d2 d3 d4 df0 df1 df2 df3 df4; obtain ⟨d0, d1, d2, d3, d4⟩ := (ho3.out.en.slAt encEnt_len).2.2.getEnt hk; simp only [Nat.zero_add] at d0 d1 d2 d3 d4; have df0 := ho3.out.en.frozen (k * 5); have df1 := ho3.out.en.frozen (k * 5 + 1); have df2 := ho3.out.en.frozen (k * 5 + 2); have df3 := ho3.out.en.frozen (k * 5 + 3); have df4 := ho3.out.en.frozen (k * 5 + 4); have hgA4 := (ho3.out.en.lt gA rfl).2)
    | ((with_reducible refine wpT_noL ?_ ?_); (focus (first | exact wanted_no _ _ _ rfl rfl rfl | exact wanted_un _ _ _ rfl rfl rfl)); simp only [setO, List.set_cons_succ, List.set_cons_zero]) | ((with_reducible refine wpT_q0 ?_ ?_ ?_ ?_); (focus rfl); (focus rfl); (focus rfl); intro K hK) | ((with_reducible refine wpT_i ?_ ?_); (focus (refine ⟨_, _, _, _, _, _, _, _, rfl, rfl, rfl, rfl, rfl, ?_⟩; omega)); intro K hK) | ((with_reducible refine wpT_ncw ?_ ?_ ?_); (focus (first | exact .inl rfl | exact .inr (wanted_yes _ _ _ rfl rfl rfl))); (focus exact ⟨_, _, rfl, rfl, rfl⟩); intro K hK) | ((with_reducible refine wpT_x0 ?_ ?_ ?_); (focus rfl); (focus rfl); intro K hK) | ((with_reducible refine wpT_q1 ?_ ?_ ?_ ?_); (focus exact wanted_yes _ _ _ rfl rfl rfl); (focus rfl); (focus rfl); intro K hK) | ((with_reducible refine wpT_x1 ?_ ?_ ?_); (focus exact wanted_yes _ _ _ rfl rfl rfl); (focus rfl); intro K hK) | ((with_reducible refine wpT_nil ?_); try dsimp only)
    | fail)
  refine wp_region_T (fun _ => True) [] [] [] [0, 1, 2, 3, 4, 5, 6, 7, 8, 9, 10, 11, 12, 13, 14, 15, 16, 17, 18, 19, 20] (by kernel_rfl) (by kernel_rfl) (by kernel_rfl) trivial ?_; simp only [pickL, List.getElem?_cons_succ, List.getElem?_cons_zero]
  go_wp2_with (first
    | ((with_reducible refine wpT_noL ?_ ?_); (focus (first | exact wanted_no _ _ _ rfl rfl rfl | exact wanted_un _ _ _ rfl rfl rfl)); simp only [setO, List.set_cons_succ, List.set_cons_zero]) | ((with_reducible refine wpT_q0 ?_ ?_ ?_ ?_); (focus rfl); (focus rfl); (focus rfl); intro K hK) | ((with_reducible refine wpT_i ?_ ?_); (focus (refine ⟨_, _, _, _, _, _, _, _, rfl, rfl, rfl, rfl, rfl, ?_⟩; omega)); intro K hK) | ((with_reducible refine wpT_ncw ?_ ?_ ?_); (focus (first | exact .inl rfl | exact .inr (wanted_yes _ _ _ rfl rfl rfl))); (focus exact ⟨_, _, rfl, rfl, rfl⟩); intro K hK) | ((with_reducible refine wpT_x0 ?_ ?_ ?_); (focus rfl); (focus rfl); intro K hK) | ((with_reducible refine wpT_q1 ?_ ?_ ?_ ?_); (focus exact wanted_yes _ _ _ rfl rfl rfl); (focus rfl); (focus rfl); intro K hK) | ((with_reducible refine wpT_x1 ?_ ?_ ?_); (focus exact wanted_yes _ _ _ rfl rfl rfl); (focus rfl); intro K hK) | ((with_reducible refine wpT_nil ?_); try dsimp only)
    | fail)
  go_ret
  rw [hh.out]
  have hP := ActPost.same 8 hbx3 ho3.out hnA'.out hB3
  (repeat (first | exact hP | refine ActPost.dr ?_))

set_option maxRecDepth 100000 in
set_option maxHeartbeats 2000000 in
theorem actFarSelf (bx lo gB gE : Nat) (A : Option Addr) (n : Nat) (g : GameT) (r : AskT) (w : World) (hbx : Bx3 w bx (.slice A n n) (.slice (some ⟨gB, 0, none⟩) 16 16) (.slice (some ⟨gE, 0, none⟩) 4 4) 35) (ho : GmO w lo A n n (some ⟨gB, 0, none⟩) 16 16 (some ⟨gE, 0, none⟩) 4 4 g)
    (hlo : lo ≤ bx) (hnA : ∀ k, (Value.slice A n n).ownBlock = some k → k ≠ bx) (hnB : gB ≠ bx) (hnE : gE ≠ bx) (hok : okG' g) (hr : okA r) (k : Nat) (hfi : figI g.1 r.1 = some k) (hop : r.2.2.1 = 4 ∨ r.2.2.1 = 5) (i : Nat) (hfj : figI g.1 r.2.2.2.1 = some i) (hik : i = k) :
    Calls Tryd.prog 44 #[.pointer (some ⟨bx, 0, none⟩), .agg #[.int .i64 r.1, .int .i64 r.2.1, .int .i64 r.2.2.1, .int .i64 r.2.2.2.1, .int .i64 r.2.2.2.2]] w fun e w' => ActPost bx lo gB gE w (behG g r) e w' := by
  have hA1 := (Below.refl w.heap.size w).alloc (Nat.le_refl _) (.cells #[.int .i64 r.1, .int .i64 r.2.1, .int .i64 r.2.2.1, .int .i64 r.2.2.2.1, .int .i64 r.2.2.2.2] 37)
  have hbr1 := Bx5.made w r 37
  have hbx1 := hbx.below hA1 hbx.lt
  have ho1 := hide (ho.below hA1)
  have hz1 : w.heap.size + 1 ≤ (w.alloc (.cells #[.int .i64 r.1, .int .i64 r.2.1, .int .i64 r.2.2.1, .int .i64 r.2.2.2.1, .int .i64 r.2.2.2.2] 37)).heap.size := by simp only [World.size_alloc]; omega
  have hbl := hbx.lt
  obtain ⟨xx0, xx1, xx2, xf0, xf1, xf2⟩ := hbx1.cells
  obtain ⟨rr0, rr1, rr2, rr3, rr4, -⟩ := hbr1.cells
  have hlx := hbx1.lt
  have hlr := hbr1.lt
  have hn' := hide ho.en.lenEq
  have hn4 : n ≤ 4 := by
    have h3 := inc_len hok.inc (fun e he => (hok.ent e he).1)
    have := hn'.out
    omega
  have hok' := hide hok
  have hrH := hide hr
  have hnA' := hide hnA
  have hoH := hide ho
  clear hok hr ho hbx hnA
  have hq1 : (r.2.2.1 == 1) = false := by simp <;> omega
  have hq2 : (r.2.2.1 == 2) = false := by simp <;> omega
  have hq3 : (r.2.2.1 == 3) = false := by simp <;> omega
  have hbe := hide (behG_act hfi (show r.2.2.1 ≠ 1 by omega))
  have hk := figI_lt hfi
  have hkn : k < n := by have := hn'.out; omega
  obtain ⟨gA, rfl, hgA1, hgA2⟩ := ho1.out.en.addrAt (show 0 < n by omega)
  have hAx : gA ≠ bx := hnA'.out gA rfl
  obtain ⟨hAB, hAE, hBE⟩ := ho1.out.sep
  have hAw := (hoH.out.en.lt gA rfl).2
  have hBw := (hoH.out.fl.lt gB rfl).2
  have hAw1 : ¬ w.heap.size = gA := by omega
  have hAw2 : ¬ gA = w.heap.size := by omega
  have hBw1 : ¬ w.heap.size = gB := by omega
  have hBw2 : ¬ gB = w.heap.size := by omega
  have hek := (okG'.full hok'.out).ent _ (List.getElem_mem hk)
  unfold entOk rng at hek
  have hk0 : decide ((k : Int) < 0) = false := by simp <;> omega
  have hi := figI_lt hfj
  have hin : i < n := by have := hn'.out; omega
  have hei := (okG'.full hok'.out).ent _ (List.getElem_mem hi)
  unfold entOk rng at hei
  have hi0 : decide ((i : Int) < 0) = false := by simp <;> omega
  have hh := hide (show behG g r = (g, 8) by rw [hbe.out, actG_some k (by omega) (by omega) hfj]; exact other_far hk hi (.inl hik))
  have hik' : (((i : Nat) : Int) == ((k : Nat) : Int)) = true := by simp [hik]
  have hikh := hide hik
  clear hop hik
  go_enter Tryd.func44, Tryd.ntmps44
  go_wp2
  generalize w.alloc (.cells #[.int .i64 r.1, .int .i64 r.2.1, .int .i64 r.2.2.1, .int .i64 r.2.2.2.1, .int .i64 r.2.2.2.2] 37) = w1 at *
  refine wp_region_T (fun _ => True) [] [] [] [0, 1, 2, 3, 4, 5, 6] (by kernel_rfl) (by kernel_rfl) (by kernel_rfl) trivial ?_; simp only [pickL, List.getElem?_cons_succ, List.getElem?_cons_zero]
  go_wp2_with (first
    | (go_at_call 70; refine (figure_some _ n n (some ⟨gB, 0, none⟩) 16 16 (some ⟨gE, 0, none⟩) 4 4 lo w1.heap.size r.1 g.1 w1.drew (show RdN 5 (flatR encEnt) w1.drew lo w1.heap.size _ n n g.1 from Own.rdn (w := w1.drew) encEnt_len ho1.out.en.drew) (Nat.le_refl _) k hfi).mono ?_; rintro e w2 ⟨rfl, hb2⟩; have hb12 : Below w1.heap.size w1 w2 := Below.appR (Below.drew (Below.refl _ _)) hb2; have hbx2 := hbx1.below hb12 hlx; have hbr2 := hbr1.below hb12 hlr; have ho2 := hide (ho1.out.below hb12); have hz2 := hb12.size; have hB2 : Below lo w w2 := (hA1.mono (by omega)).trans (hb12.mono (by omega)); clear xx0 xx1 xx2 xf0 xf1 xf2 rr0 rr1 rr2 rr3 rr4; obtain ⟨xx0, xx1, xx2, xf0, xf1, xf2⟩ := hbx2.cells; obtain ⟨rr0, rr1, rr2, rr3, rr4, -⟩ := hbr2.cells; have hlx2 := hbx2.lt; have hlr2 := hbr2.lt)
    | ((with_reducible refine wpT_noL ?_ ?_); (focus (first | exact wanted_no _ _ _ rfl rfl rfl | exact wanted_un _ _ _ rfl rfl rfl)); simp only [setO, List.set_cons_succ, List.set_cons_zero]) | ((with_reducible refine wpT_q0 ?_ ?_ ?_ ?_); (focus rfl); (focus rfl); (focus rfl); intro K hK) | ((with_reducible refine wpT_i ?_ ?_); (focus (refine ⟨_, _, _, _, _, _, _, _, rfl, rfl, rfl, rfl, rfl, ?_⟩; omega)); intro K hK) | ((with_reducible refine wpT_ncw ?_ ?_ ?_); (focus (first | exact .inl rfl | exact .inr (wanted_yes _ _ _ rfl rfl rfl))); (focus exact ⟨_, _, rfl, rfl, rfl⟩); intro K hK) | ((with_reducible refine wpT_x0 ?_ ?_ ?_); (focus rfl); (focus rfl); intro K hK) | ((with_reducible refine wpT_q1 ?_ ?_ ?_ ?_); (focus exact wanted_yes _ _ _ rfl rfl rfl); (focus rfl); (focus rfl); intro K hK) | ((with_reducible refine wpT_x1 ?_ ?_ ?_); (focus exact wanted_yes _ _ _ rfl rfl rfl); (focus rfl); intro K hK) | ((with_reducible refine wpT_nil ?_); try dsimp only)
    | fail)
  obtain ⟨d0, d1, d2, d3, d4⟩ := (ho2.out.en.slAt encEnt_len).2.2.getEnt hk
  simp only [Nat.zero_add] at d0 d1 d2 d3 d4
  have df0 := ho2.out.en.frozen (k * 5)
  have df1 := ho2.out.en.frozen (k * 5 + 1)
  have df2 := ho2.out.en.frozen (k * 5 + 2)
  have df3 := ho2.out.en.frozen (k * 5 + 3)
  have df4 := ho2.out.en.frozen (k * 5 + 4)
  have hgA3 := (ho2.out.en.lt gA rfl).2
  go_wp2
  refine wp_region_T (fun _ => True) [] [] [] [0, 1, 2, 3, 4, 5, 6] (by kernel_rfl) (by kernel_rfl) (by kernel_rfl) trivial ?_; simp only [pickL, List.getElem?_cons_succ, List.getElem?_cons_zero]
  go_wp2_with (first
    | (go_at_call 70; refine (figure_some (some ⟨gA, 0, none⟩) n n (some ⟨gB, 0, none⟩) 16 16 (some ⟨gE, 0, none⟩) 4 4 lo w2.heap.size r.2.2.2.1 g.1 w2.drew (show RdN 5 (flatR encEnt) w2.drew lo w2.heap.size (some ⟨gA, 0, none⟩) n n g.1 from Own.rdn (w := w2.drew) encEnt_len ho2.out.en.drew) (Nat.le_refl _) i hfj).mono ?_; rintro e w3 ⟨rfl, hb3⟩; have hb23 : Below w2.heap.size w2 w3 := Below.appR (Below.drew (Below.refl _ _)) hb3; have hbx3 := hbx2.below hb23 hlx2; have hbr3 := hbr2.below hb23 hlr2; have ho3 := hide (ho2.out.below hb23); have hz3 := hb23.size; have hB3 : Below lo w w3 := hB2.trans (hb23.mono (by omega)); clear xx0 xx1 xx2 xf0 xf1 xf2 rr0 rr1 rr2 rr3 rr4; obtain ⟨xx0, xx1, xx2, xf0, xf1, xf2⟩ := hbx3.cells; obtain ⟨rr0, rr1, rr2, rr3, rr4, -⟩ := hbr3.cells; have hlx3 := hbx3.lt; have hlr3 := hbr3.lt; clear d0 d1 d2 d3 d4 df0 df1 df2 df3 df4; obtain ⟨d0, d1, d2, d3, d4⟩ := (ho3.out.en.slAt encEnt_len).2.2.getEnt hk; simp only [Nat.zero_add] at d0 d1 d2 d3 d4; have df0 := ho3.out.en.frozen (k * 5); have df1 := ho3.out.en.frozen (k * 5 + 1); have df2 := ho3.out.en.frozen (k * 5 + 2); have df3 := ho3.out.en.frozen (k * 5 + 3); have df4 := ho3.out.en.frozen (k * 5 + 4); have hgA4 := (ho3.out.en.lt gA rfl).2)
    | ((with_reducible refine wpT_noL ?_ ?_); (focus (first | exact wanted_no _ _ _ rfl rfl rfl | exact wanted_un _ _ _ rfl rfl rfl)); simp only [setO, List.set_cons_succ, List.set_cons_zero]) | ((with_reducible refine wpT_q0 ?_ ?_ ?_ ?_); (focus rfl); (focus rfl); (focus rfl); intro K hK) | ((with_reducible refine wpT_i ?_ ?_); (focus (refine ⟨_, _, _, _, _, _, _, _, rfl, rfl, rfl, rfl, rfl, ?_⟩; omega)); intro K hK) | ((with_reducible refine wpT_ncw ?_ ?_ ?_); (focus (first | exact .inl rfl | exact .inr (wanted_yes _ _ _ rfl rfl rfl))); (focus exact ⟨_, _, rfl, rfl, rfl⟩); intro K hK) | ((with_reducible refine wpT_x0 ?_ ?_ ?_); (focus rfl); (focus rfl); intro K hK) | ((with_reducible refine wpT_q1 ?_ ?_ ?_ ?_); (focus exact wanted_yes _ _ _ rfl rfl rfl); (focus rfl); (focus rfl); intro K hK) | ((with_reducible refine wpT_x1 ?_ ?_ ?_); (focus exact wanted_yes _ _ _ rfl rfl rfl); (focus rfl); intro K hK) | ((with_reducible refine wpT_nil ?_); try dsimp only)
    | fail)
  refine wp_region_T (fun _ => True) [] [] [] [0, 1, 2, 3, 4, 5, 6, 7, 8, 9, 10, 11, 12, 13, 14, 15, 16, 17, 18, 19, 20] (by kernel_rfl) (by kernel_rfl) (by kernel_rfl) trivial ?_; simp only [pickL, List.getElem?_cons_succ, List.getElem?_cons_zero]
  go_wp2_with (first
    | ((with_reducible refine wpT_noL ?_ ?_); (focus (first | exact wanted_no _ _ _ rfl rfl rfl | exact wanted_un _ _ _ rfl rfl rfl)); simp only [setO, List.set_cons_succ, List.set_cons_zero]) | ((with_reducible refine wpT_q0 ?_ ?_ ?_ ?_); (focus rfl); (focus rfl); (focus rfl); intro K hK) | ((with_reducible refine wpT_i ?_ ?_); (focus (refine ⟨_, _, _, _, _, _, _, _, rfl, rfl, rfl, rfl, rfl, ?_⟩; omega)); intro K hK) | ((with_reducible refine wpT_ncw ?_ ?_ ?_); (focus (first | exact .inl rfl | exact .inr (wanted_yes _ _ _ rfl rfl rfl))); (focus exact ⟨_, _, rfl, rfl, rfl⟩); intro K hK) | ((with_reducible refine wpT_x0 ?_ ?_ ?_); (focus rfl); (focus rfl); intro K hK) | ((with_reducible refine wpT_q1 ?_ ?_ ?_ ?_); (focus exact wanted_yes _ _ _ rfl rfl rfl); (focus rfl); (focus rfl); intro K hK) | ((with_reducible refine wpT_x1 ?_ ?_ ?_); (focus exact wanted_yes _ _ _ rfl rfl rfl); (focus rfl); intro K hK) | ((with_reducible refine wpT_nil ?_); try dsimp only)
    | fail)
  go_ret
  rw [hh.out]
  have hP := ActPost.same 8 hbx3 ho3.out hnA'.out hB3
  (repeat (first | exact hP | refine ActPost.dr ?_))

set_option maxRecDepth 100000 in
set_option maxHeartbeats 2000000 in
theorem actFar (bx lo gB gE : Nat) (A : Option Addr) (n : Nat) (g : GameT) (r : AskT) (w : World) (hbx : Bx3 w bx (.slice A n n) (.slice (some ⟨gB, 0, none⟩) 16 16) (.slice (some ⟨gE, 0, none⟩) 4 4) 35) (ho : GmO w lo A n n (some ⟨gB, 0, none⟩) 16 16 (some ⟨gE, 0, none⟩) 4 4 g)
    (hlo : lo ≤ bx) (hnA : ∀ k, (Value.slice A n n).ownBlock = some k → k ≠ bx) (hnB : gB ≠ bx) (hnE : gE ≠ bx) (hok : okG' g) (hr : okA r) (k : Nat) (hfi : figI g.1 r.1 = some k) (hop : r.2.2.1 = 4 ∨ r.2.2.1 = 5) (i : Nat) (hfj : figI g.1 r.2.2.2.1 = some i) (hik : ¬ i = k) (hnear : ∀ (hk : k < g.1.length) (hi : i < g.1.length), ¬ nearE g.1[k] g.1[i]) :
    Calls Tryd.prog 44 #[.pointer (some ⟨bx, 0, none⟩), .agg #[.int .i64 r.1, .int .i64 r.2.1, .int .i64 r.2.2.1, .int .i64 r.2.2.2.1, .int .i64 r.2.2.2.2]] w fun e w' => ActPost bx lo gB gE w (behG g r) e w' := by
  have hA1 := (Below.refl w.heap.size w).alloc (Nat.le_refl _) (.cells #[.int .i64 r.1, .int .i64 r.2.1, .int .i64 r.2.2.1, .int .i64 r.2.2.2.1, .int .i64 r.2.2.2.2] 37)
  have hbr1 := Bx5.made w r 37
  have hbx1 := hbx.below hA1 hbx.lt
  have ho1 := hide (ho.below hA1)
  have hz1 : w.heap.size + 1 ≤ (w.alloc (.cells #[.int .i64 r.1, .int .i64 r.2.1, .int .i64 r.2.2.1, .int .i64 r.2.2.2.1, .int .i64 r.2.2.2.2] 37)).heap.size := by simp only [World.size_alloc]; omega
  have hbl := hbx.lt
  obtain ⟨xx0, xx1, xx2, xf0, xf1, xf2⟩ := hbx1.cells
  obtain ⟨rr0, rr1, rr2, rr3, rr4, -⟩ := hbr1.cells
  have hlx := hbx1.lt
  have hlr := hbr1.lt
  have hn' := hide ho.en.lenEq
  have hn4 : n ≤ 4 := by
    have h3 := inc_len hok.inc (fun e he => (hok.ent e he).1)
    have := hn'.out
    omega
  have hok' := hide hok
  have hrH := hide hr
  have hnA' := hide hnA
  have hoH := hide ho
  clear hok hr ho hbx hnA
  have hq1 : (r.2.2.1 == 1) = false := by simp <;> omega
  have hq2 : (r.2.2.1 == 2) = false := by simp <;> omega
  have hq3 : (r.2.2.1 == 3) = false := by simp <;> omega
  have hbe := hide (behG_act hfi (show r.2.2.1 ≠ 1 by omega))
  have hik' : (((i : Nat) : Int) == ((k : Nat) : Int)) = false := by simp <;> omega
  have hikh := hide hik
  have hk := figI_lt hfi
  have hkn : k < n := by have := hn'.out; omega
  obtain ⟨gA, rfl, hgA1, hgA2⟩ := ho1.out.en.addrAt (show 0 < n by omega)
  have hAx : gA ≠ bx := hnA'.out gA rfl
  obtain ⟨hAB, hAE, hBE⟩ := ho1.out.sep
  have hAw := (hoH.out.en.lt gA rfl).2
  have hBw := (hoH.out.fl.lt gB rfl).2
  have hAw1 : ¬ w.heap.size = gA := by omega
  have hAw2 : ¬ gA = w.heap.size := by omega
  have hBw1 : ¬ w.heap.size = gB := by omega
  have hBw2 : ¬ gB = w.heap.size := by omega
  have hek := (okG'.full hok'.out).ent _ (List.getElem_mem hk)
  unfold entOk rng at hek
  have hk0 : decide ((k : Int) < 0) = false := by simp <;> omega
  have hi := figI_lt hfj
  have hin : i < n := by have := hn'.out; omega
  have hei := (okG'.full hok'.out).ent _ (List.getElem_mem hi)
  unfold entOk rng at hei
  have hi0 : decide ((i : Int) < 0) = false := by simp <;> omega
  have hh := hide (show behG g r = (g, 8) by rw [hbe.out, actG_some k (by omega) (by omega) hfj]; exact other_far hk hi (.inr (hnear hk hi)))
  have hnq : decide (nearE g.1[k] g.1[i]) = false := by simpa using hnear hk hi
  clear hop hik hnear
  go_enter Tryd.func44, Tryd.ntmps44
  go_wp2
  generalize w.alloc (.cells #[.int .i64 r.1, .int .i64 r.2.1, .int .i64 r.2.2.1, .int .i64 r.2.2.2.1, .int .i64 r.2.2.2.2] 37) = w1 at *
  refine wp_region_T (fun _ => True) [] [] [] [0, 1, 2, 3, 4, 5, 6] (by kernel_rfl) (by kernel_rfl) (by kernel_rfl) trivial ?_; simp only [pickL, List.getElem?_cons_succ, List.getElem?_cons_zero]
  go_wp2_with (first
    | (go_at_call 70; refine (figure_some _ n n (some ⟨gB, 0, none⟩) 16 16 (some ⟨gE, 0, none⟩) 4 4 lo w1.heap.size r.1 g.1 w1.drew (show RdN 5 (flatR encEnt) w1.drew lo w1.heap.size _ n n g.1 from Own.rdn (w := w1.drew) encEnt_len ho1.out.en.drew) (Nat.le_refl _) k hfi).mono ?_; rintro e w2 ⟨rfl, hb2⟩; have hb12 : Below w1.heap.size w1 w2 := Below.appR (Below.drew (Below.refl _ _)) hb2; have hbx2 := hbx1.below hb12 hlx; have hbr2 := hbr1.below hb12 hlr; have ho2 := hide (ho1.out.below hb12); have hz2 := hb12.size; have hB2 : Below lo w w2 := (hA1.mono (by omega)).trans (hb12.mono (by omega)); clear xx0 xx1 xx2 xf0 xf1 xf2 rr0 rr1 rr2 rr3 rr4; obtain ⟨xx0, xx1, xx2, xf0, xf1, xf2⟩ := hbx2.cells; obtain ⟨rr0, rr1, rr2, rr3, rr4, -⟩ := hbr2.cells; have hlx2 := hbx2.lt; have hlr2 := hbr2.lt)
    | ((with_reducible refine wpT_noL ?_ ?_); (focus (first | exact wanted_no _ _ _ rfl rfl rfl | exact wanted_un _ _ _ rfl rfl rfl)); simp only [setO, List.set_cons_succ, List.set_cons_zero]) | ((with_reducible refine wpT_q0 ?_ ?_ ?_ ?_); (focus rfl); (focus rfl); (focus rfl); intro K hK) | ((with_reducible refine wpT_i ?_ ?_); (focus (refine ⟨_, _, _, _, _, _, _, _, rfl, rfl, rfl, rfl, rfl, ?_⟩; omega)); intro K hK) | ((with_reducible refine wpT_ncw ?_ ?_ ?_); (focus (first | exact .inl rfl | exact .inr (wanted_yes _ _ _ rfl rfl rfl))); (focus exact ⟨_, _, rfl, rfl, rfl⟩); intro K hK) | ((with_reducible refine wpT_x0 ?_ ?_ ?_); (focus rfl); (focus rfl); intro K hK) | ((with_reducible refine wpT_q1 ?_ ?_ ?_ ?_); (focus exact wanted_yes _ _ _ rfl rfl rfl); (focus rfl); (focus rfl); intro K hK) | ((with_reducible refine wpT_x1 ?_ ?_ ?_); (focus exact wanted_yes _ _ _ rfl rfl rfl); (focus rfl); intro K hK) | ((with_reducible refine wpT_nil ?_); try dsimp only)
    | fail)
  obtain ⟨d0, d1, d2, d3, d4⟩ := (ho2.out.en.slAt encEnt_len).2.2.getEnt hk
  simp only [Nat.zero_add] at d0 d1 d2 d3 d4
  have df0 := ho2.out.en.frozen (k * 5)
  have df1 := ho2.out.en.frozen (k * 5 + 1)
  have df2 := ho2.out.en.frozen (k * 5 + 2)
  have df3 := ho2.out.en.frozen (k * 5 + 3)
  have df4 := ho2.out.en.frozen (k * 5 + 4)
  have hgA3 := (ho2.out.en.lt gA rfl).2
  go_wp2
  refine wp_region_T (fun _ => True) [] [] [] [0, 1, 2, 3, 4, 5, 6] (by kernel_rfl) (by kernel_rfl) (by kernel_rfl) trivial ?_; simp only [pickL, List.getElem?_cons_succ, List.getElem?_cons_zero]
  go_wp2_with (first
    | (go_at_call 70; refine (figure_some (some ⟨gA, 0, none⟩) n n (some ⟨gB, 0, none⟩) 16 16 (some ⟨gE, 0, none⟩) 4 4 lo w2.heap.size r.2.2.2.1 g.1 w2.drew (show RdN 5 (flatR encEnt) w2.drew lo w2.heap.size (some ⟨gA, 0, none⟩) n n g.1 from Own.rdn (w := w2.drew) encEnt_len ho2.out.en.drew) (Nat.le_refl _) i hfj).mono ?_; rintro e w3 ⟨rfl, hb3⟩; have hb23 : Below w2.heap.size w2 w3 := Below.appR (Below.drew (Below.refl _ _)) hb3; have hbx3 := hbx2.below hb23 hlx2; have hbr3 := hbr2.below hb23 hlr2; have ho3 := hide (ho2.out.below hb23); have hz3 := hb23.size; have hB3 : Below lo w w3 := hB2.trans (hb23.mono (by omega)); clear xx0 xx1 xx2 xf0 xf1 xf2 rr0 rr1 rr2 rr3 rr4; obtain ⟨xx0, xx1, xx2, xf0, xf1, xf2⟩ := hbx3.cells; obtain ⟨rr0, rr1, rr2, rr3, rr4, -⟩ := hbr3.cells; have hlx3 := hbx3.lt; have hlr3 := hbr3.lt; clear d0 d1 d2 d3 d4 df0 df1 df2 df3 df4; obtain ⟨d0, d1, d2, d3, d4⟩ := (ho3.out.en.slAt encEnt_len).2.2.getEnt hk; simp only [Nat.zero_add] at d0 d1 d2 d3 d4; have df0 := ho3.out.en.frozen (k * 5); have df1 := ho3.out.en.frozen (k * 5 + 1); have df2 := ho3.out.en.frozen (k * 5 + 2); have df3 := ho3.out.en.frozen (k * 5 + 3); have df4 := ho3.out.en.frozen (k * 5 + 4); have hgA4 := (ho3.out.en.lt gA rfl).2)
    | ((with_reducible refine wpT_noL ?_ ?_); (focus (first | exact wanted_no _ _ _ rfl rfl rfl | exact wanted_un _ _ _ rfl rfl rfl)); simp only [setO, List.set_cons_succ, List.set_cons_zero]) | ((with_reducible refine wpT_q0 ?_ ?_ ?_ ?_); (focus rfl); (focus rfl); (focus rfl); intro K hK) | ((with_reducible refine wpT_i ?_ ?_); (focus (refine ⟨_, _, _, _, _, _, _, _, rfl, rfl, rfl, rfl, rfl, ?_⟩; omega)); intro K hK) | ((with_reducible refine wpT_ncw ?_ ?_ ?_); (focus (first | exact .inl rfl | exact .inr (wanted_yes _ _ _ rfl rfl rfl))); (focus exact ⟨_, _, rfl, rfl, rfl⟩); intro K hK) | ((with_reducible refine wpT_x0 ?_ ?_ ?_); (focus rfl); (focus rfl); intro K hK) | ((with_reducible refine wpT_q1 ?_ ?_ ?_ ?_); (focus exact wanted_yes _ _ _ rfl rfl rfl); (focus rfl); (focus rfl); intro K hK) | ((with_reducible refine wpT_x1 ?_ ?_ ?_); (focus exact wanted_yes _ _ _ rfl rfl rfl); (focus rfl); intro K hK) | ((with_reducible refine wpT_nil ?_); try dsimp only)
    | fail)
  obtain ⟨i0, i1, i2, i3, i4⟩ := (ho3.out.en.slAt encEnt_len).2.2.getEnt hi
  simp only [Nat.zero_add] at i0 i1 i2 i3 i4
  have if0 := ho3.out.en.frozen (i * 5)
  have if1 := ho3.out.en.frozen (i * 5 + 1)
  have if2 := ho3.out.en.frozen (i * 5 + 2)
  have if3 := ho3.out.en.frozen (i * 5 + 3)
  have if4 := ho3.out.en.frozen (i * 5 + 4)
  refine wp_region_T (fun _ => True) [] [] [] [0, 1, 2, 3, 4, 5, 6, 7, 8, 9, 10, 11, 12, 13, 14, 15, 16, 17, 18, 19, 20] (by kernel_rfl) (by kernel_rfl) (by kernel_rfl) trivial ?_; simp only [pickL, List.getElem?_cons_succ, List.getElem?_cons_zero]
  go_wp2_with (first
    | (go_at_call 73; refine (nearI_c g.1[k] g.1[i] _ ⟨hek.2.1, hek.2.2.1⟩ ⟨hei.2.1, hei.2.2.1⟩).mono ?_; rintro e w4 ⟨rfl, hb4⟩; simp only [hnq]; have hb34 : Below w3.heap.size w3 w4 := Below.appR (Below.drew (Below.refl _ _)) hb4; have hbx4 := hbx3.below hb34 hlx3; have hbr4 := hbr3.below hb34 hlr3; have ho4 := hide (ho3.out.below hb34); have hz4 := hb34.size; have hB4 : Below lo w w4 := hB3.trans (hb34.mono (by omega)); clear xx0 xx1 xx2 xf0 xf1 xf2 rr0 rr1 rr2 rr3 rr4; obtain ⟨xx0, xx1, xx2, xf0, xf1, xf2⟩ := hbx4.cells; obtain ⟨rr0, rr1, rr2, rr3, rr4, -⟩ := hbr4.cells; have hlx4 := hbx4.lt; have hlr4 := hbr4.lt; clear d0 d1 d2 d3 d4 df0 df1 df2 df3 df4; obtain ⟨d0, d1, d2, d3, d4⟩ := (ho4.out.en.slAt encEnt_len).2.2.getEnt hk; simp only [Nat.zero_add] at d0 d1 d2 d3 d4; have df0 := ho4.out.en.frozen (k * 5); have df1 := ho4.out.en.frozen (k * 5 + 1); have df2 := ho4.out.en.frozen (k * 5 + 2); have df3 := ho4.out.en.frozen (k * 5 + 3); have df4 := ho4.out.en.frozen (k * 5 + 4); clear i0 i1 i2 i3 i4 if0 if1 if2 if3 if4; obtain ⟨i0, i1, i2, i3, i4⟩ := (ho4.out.en.slAt encEnt_len).2.2.getEnt hi; simp only [Nat.zero_add] at i0 i1 i2 i3 i4; have if0 := ho4.out.en.frozen (i * 5); have if1 := ho4.out.en.frozen (i * 5 + 1); have if2 := ho4.out.en.frozen (i * 5 + 2); have if3 := ho4.out.en.frozen (i * 5 + 3); have if4 := ho4.out.en.frozen (i * 5 + 4); have hgA5 := (ho4.out.en.lt gA rfl).2)
    | ((with_reducible refine wpT_noL ?_ ?_); (focus (first | exact wanted_no _ _ _ rfl rfl rfl | exact wanted_un _ _ _ rfl rfl rfl)); simp only [setO, List.set_cons_succ, List.set_cons_zero]) | ((with_reducible refine wpT_q0 ?_ ?_ ?_ ?_); (focus rfl); (focus rfl); (focus rfl); intro K hK) | ((with_reducible refine wpT_i ?_ ?_); (focus (refine ⟨_, _, _, _, _, _, _, _, rfl, rfl, rfl, rfl, rfl, ?_⟩; omega)); intro K hK) | ((with_reducible refine wpT_ncw ?_ ?_ ?_); (focus (first | exact .inl rfl | exact .inr (wanted_yes _ _ _ rfl rfl rfl))); (focus exact ⟨_, _, rfl, rfl, rfl⟩); intro K hK) | ((with_reducible refine wpT_x0 ?_ ?_ ?_); (focus rfl); (focus rfl); intro K hK) | ((with_reducible refine wpT_q1 ?_ ?_ ?_ ?_); (focus exact wanted_yes _ _ _ rfl rfl rfl); (focus rfl); (focus rfl); intro K hK) | ((with_reducible refine wpT_x1 ?_ ?_ ?_); (focus exact wanted_yes _ _ _ rfl rfl rfl); (focus rfl); intro K hK) | ((with_reducible refine wpT_nil ?_); try dsimp only)
    | fail)
  go_ret
  rw [hh.out]
  have hP := ActPost.same 8 hbx4 ho4.out hnA'.out hB4
  (repeat (first | exact hP | refine ActPost.dr ?_))

set_option maxRecDepth 100000 in
set_option maxHeartbeats 2000000 in
theorem actGive (bx lo gB gE : Nat) (A : Option Addr) (n : Nat) (g : GameT) (r : AskT) (w : World) (hbx : Bx3 w bx (.slice A n n) (.slice (some ⟨gB, 0, none⟩) 16 16) (.slice (some ⟨gE, 0, none⟩) 4 4) 35) (ho : GmO w lo A n n (some ⟨gB, 0, none⟩) 16 16 (some ⟨gE, 0, none⟩) 4 4 g)
    (hlo : lo ≤ bx) (hnA : ∀ k, (Value.slice A n n).ownBlock = some k → k ≠ bx) (hnB : gB ≠ bx) (hnE : gE ≠ bx) (hok : okG' g) (hr : okA r) (k : Nat) (hfi : figI g.1 r.1 = some k) (hop : r.2.2.1 = 5) (i : Nat) (hfj : figI g.1 r.2.2.2.1 = some i) (hik : ¬ i = k) (hnear : ∀ (hk : k < g.1.length) (hi : i < g.1.length), nearE g.1[k] g.1[i]) :
    Calls Tryd.prog 44 #[.pointer (some ⟨bx, 0, none⟩), .agg #[.int .i64 r.1, .int .i64 r.2.1, .int .i64 r.2.2.1, .int .i64 r.2.2.2.1, .int .i64 r.2.2.2.2]] w fun e w' => ActPost bx lo gB gE w (behG g r) e w' := by
  have hA1 := (Below.refl w.heap.size w).alloc (Nat.le_refl _) (.cells #[.int .i64 r.1, .int .i64 r.2.1, .int .i64 r.2.2.1, .int .i64 r.2.2.2.1, .int .i64 r.2.2.2.2] 37)
  have hbr1 := Bx5.made w r 37
  have hbx1 := hbx.below hA1 hbx.lt
  have ho1 := hide (ho.below hA1)
  have hz1 : w.heap.size + 1 ≤ (w.alloc (.cells #[.int .i64 r.1, .int .i64 r.2.1, .int .i64 r.2.2.1, .int .i64 r.2.2.2.1, .int .i64 r.2.2.2.2] 37)).heap.size := by simp only [World.size_alloc]; omega
  have hbl := hbx.lt
  obtain ⟨xx0, xx1, xx2, xf0, xf1, xf2⟩ := hbx1.cells
  obtain ⟨rr0, rr1, rr2, rr3, rr4, -⟩ := hbr1.cells
  have hlx := hbx1.lt
  have hlr := hbr1.lt
  have hn' := hide ho.en.lenEq
  have hn4 : n ≤ 4 := by
    have h3 := inc_len hok.inc (fun e he => (hok.ent e he).1)
    have := hn'.out
    omega
  have hok' := hide hok
  have hrH := hide hr
  have hnA' := hide hnA
  have hoH := hide ho
  clear hok hr ho hbx hnA
  have hq1 : (r.2.2.1 == 1) = false := by simp <;> omega
  have hq2 : (r.2.2.1 == 2) = false := by simp <;> omega
  have hq3 : (r.2.2.1 == 3) = false := by simp <;> omega
  have hbe := hide (behG_act hfi (show r.2.2.1 ≠ 1 by omega))
  have hik' : (((i : Nat) : Int) == ((k : Nat) : Int)) = false := by simp <;> omega
  have hikh := hide hik
  have hk := figI_lt hfi
  have hkn : k < n := by have := hn'.out; omega
  obtain ⟨gA, rfl, hgA1, hgA2⟩ := ho1.out.en.addrAt (show 0 < n by omega)
  have hAx : gA ≠ bx := hnA'.out gA rfl
  obtain ⟨hAB, hAE, hBE⟩ := ho1.out.sep
  have hAw := (hoH.out.en.lt gA rfl).2
  have hBw := (hoH.out.fl.lt gB rfl).2
  have hAw1 : ¬ w.heap.size = gA := by omega
  have hAw2 : ¬ gA = w.heap.size := by omega
  have hBw1 : ¬ w.heap.size = gB := by omega
  have hBw2 : ¬ gB = w.heap.size := by omega
  have hek := (okG'.full hok'.out).ent _ (List.getElem_mem hk)
  unfold entOk rng at hek
  have hk0 : decide ((k : Int) < 0) = false := by simp <;> omega
  have hi := figI_lt hfj
  have hin : i < n := by have := hn'.out; omega
  have hei := (okG'.full hok'.out).ent _ (List.getElem_mem hi)
  unfold entOk rng at hei
  have hi0 : decide ((i : Int) < 0) = false := by simp <;> omega
  have hact := hide (show behG g r = if g.1[k].2.2.2.2 < r.2.2.2.2 then (g, 7) else (((g.1.set i (entG g.1[i] r.2.2.2.2)).set k (entG g.1[k] (- r.2.2.2.2)), g.2.1, g.2.2), 0) by rw [hbe.out, actG_some k (by omega) (by omega) hfj]; exact other_give hk hi hik (hnear hk hi) hop)
  have hnq : decide (nearE g.1[k] g.1[i]) = true := by simpa using hnear hk hi
  have hq5 : (r.2.2.1 == 5) = true := by simp [hop]
  have hY : 1 ≤ r.2.2.2.2 ∧ r.2.2.2.2 ≤ 9 := by have := hrH.out; unfold okA rng at this; omega
  have hne1 : ∀ a b : Nat, a < 5 → b < 5 → ¬ k * 5 + a = i * 5 + b := fun a b ha hb h => by omega
  clear hop hik hnear
  cases e2 : decide (g.1[k].2.2.2.2 < r.2.2.2.2)
  · have hh := hide (show behG g r = (((g.1.set i (entG g.1[i] r.2.2.2.2)).set k (entG g.1[k] (- r.2.2.2.2)), g.2.1, g.2.2), 0) by rw [hact.out, if_neg (by simpa using e2)])
    have hki1 : ¬ i * 5 + 4 = k * 5 + 4 := by have := hikh.out; omega
    have hki2 : ¬ k * 5 + 4 = i * 5 + 4 := by have := hikh.out; omega
    have hki3 : ¬ i = k := hikh.out
    have hki4 : ¬ k = i := fun h => hikh.out h.symm
    clear hne1
    go_enter Tryd.func44, Tryd.ntmps44
    go_wp2
    generalize w.alloc (.cells #[.int .i64 r.1, .int .i64 r.2.1, .int .i64 r.2.2.1, .int .i64 r.2.2.2.1, .int .i64 r.2.2.2.2] 37) = w1 at *
    refine wp_region_T (fun _ => True) [] [] [] [0, 1, 2, 3, 4, 5, 6] (by kernel_rfl) (by kernel_rfl) (by kernel_rfl) trivial ?_; simp only [pickL, List.getElem?_cons_succ, List.getElem?_cons_zero]
    go_wp2_with (first
      | (go_at_call 70; refine (figure_some _ n n (some ⟨gB, 0, none⟩) 16 16 (some ⟨gE, 0, none⟩) 4 4 lo w1.heap.size r.1 g.1 w1.drew (show RdN 5 (flatR encEnt) w1.drew lo w1.heap.size _ n n g.1 from Own.rdn (w := w1.drew) encEnt_len ho1.out.en.drew) (Nat.le_refl _) k hfi).mono ?_; rintro e w2 ⟨rfl, hb2⟩; have hb12 : Below w1.heap.size w1 w2 := Below.appR (Below.drew (Below.refl _ _)) hb2; have hbx2 := hbx1.below hb12 hlx; have hbr2 := hbr1.below hb12 hlr; have ho2 := hide (ho1.out.below hb12); have hz2 := hb12.size; have hB2 : Below lo w w2 := (hA1.mono (by omega)).trans (hb12.mono (by omega)); clear xx0 xx1 xx2 xf0 xf1 xf2 rr0 rr1 rr2 rr3 rr4; obtain ⟨xx0, xx1, xx2, xf0, xf1, xf2⟩ := hbx2.cells; obtain ⟨rr0, rr1, rr2, rr3, rr4, -⟩ := hbr2.cells; have hlx2 := hbx2.lt; have hlr2 := hbr2.lt)
      | ((with_reducible refine wpT_noL ?_ ?_); (focus (first | exact wanted_no _ _ _ rfl rfl rfl | exact wanted_un _ _ _ rfl rfl rfl)); simp only [setO, List.set_cons_succ, List.set_cons_zero]) | ((with_reducible refine wpT_q0 ?_ ?_ ?_ ?_); (focus rfl); (focus rfl); (focus rfl); intro K hK) | ((with_reducible refine wpT_i ?_ ?_); (focus (refine ⟨_, _, _, _, _, _, _, _, rfl, rfl, rfl, rfl, rfl, ?_⟩; omega)); intro K hK) | ((with_reducible refine wpT_ncw ?_ ?_ ?_); (focus (first | exact .inl rfl | exact .inr (wanted_yes _ _ _ rfl rfl rfl))); (focus exact ⟨_, _, rfl, rfl, rfl⟩); intro K hK) | ((with_reducible refine wpT_x0 ?_ ?_ ?_); (focus rfl); (focus rfl); intro K hK) | ((with_reducible refine wpT_q1 ?_ ?_ ?_ ?_); (focus exact wanted_yes _ _ _ rfl rfl rfl); (focus rfl); (focus rfl); intro K hK) | ((with_reducible refine wpT_x1 ?_ ?_ ?_); (focus exact wanted_yes _ _ _ rfl rfl rfl); (focus rfl); intro K hK) | ((with_reducible refine wpT_nil ?_); try dsimp only)
      | fail)
    obtain ⟨d0, d1, d2, d3, d4⟩ := (ho2.out.en.slAt encEnt_len).2.2.getEnt hk
    simp only [Nat.zero_add] at d0 d1 d2 d3 d4
    have df0 := ho2.out.en.frozen (k * 5)
    have df1 := ho2.out.en.frozen (k * 5 + 1)
    have df2 := ho2.out.en.frozen (k * 5 + 2)
    have df3 := ho2.out.en.frozen (k * 5 + 3)
    have df4 := ho2.out.en.frozen (k * 5 + 4)
    have hgA3 := (ho2.out.en.lt gA rfl).2
    go_wp2
    refine wp_region_T (fun _ => True) [] [] [] [0, 1, 2, 3, 4, 5, 6] (by kernel_rfl) (by kernel_rfl) (by kernel_rfl) trivial ?_; simp only [pickL, List.getElem?_cons_succ, List.getElem?_cons_zero]
    go_wp2_with (first
      | (go_at_call 70; refine (figure_some (some ⟨gA, 0, none⟩) n n (some ⟨gB, 0, none⟩) 16 16 (some ⟨gE, 0, none⟩) 4 4 lo w2.heap.size r.2.2.2.1 g.1 w2.drew (show RdN 5 (flatR encEnt) w2.drew lo w2.heap.size (some ⟨gA, 0, none⟩) n n g.1 from Own.rdn (w := w2.drew) encEnt_len ho2.out.en.drew) (Nat.le_refl _) i hfj).mono ?_; rintro e w3 ⟨rfl, hb3⟩; have hb23 : Below w2.heap.size w2 w3 := Below.appR (Below.drew (Below.refl _ _)) hb3; have hbx3 := hbx2.below hb23 hlx2; have hbr3 := hbr2.below hb23 hlr2; have ho3 := hide (ho2.out.below hb23); have hz3 := hb23.size; have hB3 : Below lo w w3 := hB2.trans (hb23.mono (by omega)); clear xx0 xx1 xx2 xf0 xf1 xf2 rr0 rr1 rr2 rr3 rr4; obtain ⟨xx0, xx1, xx2, xf0, xf1, xf2⟩ := hbx3.cells; obtain ⟨rr0, rr1, rr2, rr3, rr4, -⟩ := hbr3.cells; have hlx3 := hbx3.lt; have hlr3 := hbr3.lt; clear d0 d1 d2 d3 d4 df0 df1 df2 df3 df4; obtain ⟨d0, d1, d2, d3, d4⟩ := (ho3.out.en.slAt encEnt_len).2.2.getEnt hk; simp only [Nat.zero_add] at d0 d1 d2 d3 d4; have df0 := ho3.out.en.frozen (k * 5); have df1 := ho3.out.en.frozen (k * 5 + 1); have df2 := ho3.out.en.frozen (k * 5 + 2); have df3 := ho3.out.en.frozen (k * 5 + 3); have df4 := ho3.out.en.frozen (k * 5 + 4); have hgA4 := (ho3.out.en.lt gA rfl).2)
      | ((with_reducible refine wpT_noL ?_ ?_); (focus (first | exact wanted_no _ _ _ rfl rfl rfl | exact wanted_un _ _ _ rfl rfl rfl)); simp only [setO, List.set_cons_succ, List.set_cons_zero]) | ((with_reducible refine wpT_q0 ?_ ?_ ?_ ?_); (focus rfl); (focus rfl); (focus rfl); intro K hK) | ((with_reducible refine wpT_i ?_ ?_); (focus (refine ⟨_, _, _, _, _, _, _, _, rfl, rfl, rfl, rfl, rfl, ?_⟩; omega)); intro K hK) | ((with_reducible refine wpT_ncw ?_ ?_ ?_); (focus (first | exact .inl rfl | exact .inr (wanted_yes _ _ _ rfl rfl rfl))); (focus exact ⟨_, _, rfl, rfl, rfl⟩); intro K hK) | ((with_reducible refine wpT_x0 ?_ ?_ ?_); (focus rfl); (focus rfl); intro K hK) | ((with_reducible refine wpT_q1 ?_ ?_ ?_ ?_); (focus exact wanted_yes _ _ _ rfl rfl rfl); (focus rfl); (focus rfl); intro K hK) | ((with_reducible refine wpT_x1 ?_ ?_ ?_); (focus exact wanted_yes _ _ _ rfl rfl rfl); (focus rfl); intro K hK) | ((with_reducible refine wpT_nil ?_); try dsimp only)
      | fail)
    obtain ⟨i0, i1, i2, i3, i4⟩ := (ho3.out.en.slAt encEnt_len).2.2.getEnt hi
    simp only [Nat.zero_add] at i0 i1 i2 i3 i4
    have if0 := ho3.out.en.frozen (i * 5)
    have if1 := ho3.out.en.frozen (i * 5 + 1)
    have if2 := ho3.out.en.frozen (i * 5 + 2)
    have if3 := ho3.out.en.frozen (i * 5 + 3)
    have if4 := ho3.out.en.frozen (i * 5 + 4)
    refine wp_region_T (fun _ => True) [] [] [] [0, 1, 2, 3, 4, 5, 6, 7, 8, 9, 10, 11, 12, 13, 14, 15, 16, 17, 18, 19, 20] (by kernel_rfl) (by kernel_rfl) (by kernel_rfl) trivial ?_; simp only [pickL, List.getElem?_cons_succ, List.getElem?_cons_zero]
    go_wp2_with (first
      | (go_at_call 73; refine (nearI_c g.1[k] g.1[i] _ ⟨hek.2.1, hek.2.2.1⟩ ⟨hei.2.1, hei.2.2.1⟩).mono ?_; rintro e w4 ⟨rfl, hb4⟩; simp only [hnq]; have hb34 : Below w3.heap.size w3 w4 := Below.appR (Below.drew (Below.refl _ _)) hb4; have hbx4 := hbx3.below hb34 hlx3; have hbr4 := hbr3.below hb34 hlr3; have ho4 := hide (ho3.out.below hb34); have hz4 := hb34.size; have hB4 : Below lo w w4 := hB3.trans (hb34.mono (by omega)); clear xx0 xx1 xx2 xf0 xf1 xf2 rr0 rr1 rr2 rr3 rr4; obtain ⟨xx0, xx1, xx2, xf0, xf1, xf2⟩ := hbx4.cells; obtain ⟨rr0, rr1, rr2, rr3, rr4, -⟩ := hbr4.cells; have hlx4 := hbx4.lt; have hlr4 := hbr4.lt; clear d0 d1 d2 d3 d4 df0 df1 df2 df3 df4; obtain ⟨d0, d1, d2, d3, d4⟩ := (ho4.out.en.slAt encEnt_len).2.2.getEnt hk; simp only [Nat.zero_add] at d0 d1 d2 d3 d4; have df0 := ho4.out.en.frozen (k * 5); have df1 := ho4.out.en.frozen (k * 5 + 1); have df2 := ho4.out.en.frozen (k * 5 + 2); have df3 := ho4.out.en.frozen (k * 5 + 3); have df4 := ho4.out.en.frozen (k * 5 + 4); clear i0 i1 i2 i3 i4 if0 if1 if2 if3 if4; obtain ⟨i0, i1, i2, i3, i4⟩ := (ho4.out.en.slAt encEnt_len).2.2.getEnt hi; simp only [Nat.zero_add] at i0 i1 i2 i3 i4; have if0 := ho4.out.en.frozen (i * 5); have if1 := ho4.out.en.frozen (i * 5 + 1); have if2 := ho4.out.en.frozen (i * 5 + 2); have if3 := ho4.out.en.frozen (i * 5 + 3); have if4 := ho4.out.en.frozen (i * 5 + 4); have hgA5 := (ho4.out.en.lt gA rfl).2)
      | ((with_reducible refine wpT_noL ?_ ?_); (focus (first | exact wanted_no _ _ _ rfl rfl rfl | exact wanted_un _ _ _ rfl rfl rfl)); simp only [setO, List.set_cons_succ, List.set_cons_zero]) | ((with_reducible refine wpT_q0 ?_ ?_ ?_ ?_); (focus rfl); (focus rfl); (focus rfl); intro K hK) | ((with_reducible refine wpT_i ?_ ?_); (focus (refine ⟨_, _, _, _, _, _, _, _, rfl, rfl, rfl, rfl, rfl, ?_⟩; omega)); intro K hK) | ((with_reducible refine wpT_ncw ?_ ?_ ?_); (focus (first | exact .inl rfl | exact .inr (wanted_yes _ _ _ rfl rfl rfl))); (focus exact ⟨_, _, rfl, rfl, rfl⟩); intro K hK) | ((with_reducible refine wpT_x0 ?_ ?_ ?_); (focus rfl); (focus rfl); intro K hK) | ((with_reducible refine wpT_q1 ?_ ?_ ?_ ?_); (focus exact wanted_yes _ _ _ rfl rfl rfl); (focus rfl); (focus rfl); intro K hK) | ((with_reducible refine wpT_x1 ?_ ?_ ?_); (focus exact wanted_yes _ _ _ rfl rfl rfl); (focus rfl); intro K hK) | ((with_reducible refine wpT_nil ?_); try dsimp only)
      | fail)
    refine wp_region_T (fun _ => True) [] [] [] [0, 1, 2, 3, 4, 5, 6] (by kernel_rfl) (by kernel_rfl) (by kernel_rfl) trivial ?_; simp only [pickL, List.getElem?_cons_succ, List.getElem?_cons_zero]
    go_wp2_with (first
      | ((with_reducible refine wpT_noL ?_ ?_); (focus (first | exact wanted_no _ _ _ rfl rfl rfl | exact wanted_un _ _ _ rfl rfl rfl)); simp only [setO, List.set_cons_succ, List.set_cons_zero]) | ((with_reducible refine wpT_q0 ?_ ?_ ?_ ?_); (focus rfl); (focus rfl); (focus rfl); intro K hK) | ((with_reducible refine wpT_i ?_ ?_); (focus (refine ⟨_, _, _, _, _, _, _, _, rfl, rfl, rfl, rfl, rfl, ?_⟩; omega)); intro K hK) | ((with_reducible refine wpT_ncw ?_ ?_ ?_); (focus (first | exact .inl rfl | exact .inr (wanted_yes _ _ _ rfl rfl rfl))); (focus exact ⟨_, _, rfl, rfl, rfl⟩); intro K hK) | ((with_reducible refine wpT_x0 ?_ ?_ ?_); (focus rfl); (focus rfl); intro K hK) | ((with_reducible refine wpT_q1 ?_ ?_ ?_ ?_); (focus exact wanted_yes _ _ _ rfl rfl rfl); (focus rfl); (focus rfl); intro K hK) | ((with_reducible refine wpT_x1 ?_ ?_ ?_); (focus exact wanted_yes _ _ _ rfl rfl rfl); (focus rfl); intro K hK) | ((with_reducible refine wpT_nil ?_); try dsimp only)
      | fail)
    refine wp_region_T (fun _ => True) [] [] [] [0, 1, 2, 3, 4, 5, 6, 7, 8, 9] (by kernel_rfl) (by kernel_rfl) (by kernel_rfl) trivial ?_; simp only [pickL, List.getElem?_cons_succ, List.getElem?_cons_zero]
    go_wp2_with (first
      | ((with_reducible refine wpT_noL ?_ ?_); (focus (first | exact wanted_no _ _ _ rfl rfl rfl | exact wanted_un _ _ _ rfl rfl rfl)); simp only [setO, List.set_cons_succ, List.set_cons_zero]) | ((with_reducible refine wpT_q0 ?_ ?_ ?_ ?_); (focus rfl); (focus rfl); (focus rfl); intro K hK) | ((with_reducible refine wpT_i ?_ ?_); (focus (refine ⟨_, _, _, _, _, _, _, _, rfl, rfl, rfl, rfl, rfl, ?_⟩; omega)); intro K hK) | ((with_reducible refine wpT_ncw ?_ ?_ ?_); (focus (first | exact .inl rfl | exact .inr (wanted_yes _ _ _ rfl rfl rfl))); (focus exact ⟨_, _, rfl, rfl, rfl⟩); intro K hK) | ((with_reducible refine wpT_x0 ?_ ?_ ?_); (focus rfl); (focus rfl); intro K hK) | ((with_reducible refine wpT_q1 ?_ ?_ ?_ ?_); (focus exact wanted_yes _ _ _ rfl rfl rfl); (focus rfl); (focus rfl); intro K hK) | ((with_reducible refine wpT_x1 ?_ ?_ ?_); (focus exact wanted_yes _ _ _ rfl rfl rfl); (focus rfl); intro K hK) | ((with_reducible refine wpT_nil ?_); try dsimp only)
      | fail)
    refine wp_region_T (fun _ => True) [] [] [] [0, 1, 2, 3, 4, 5, 6, 7, 8, 9] (by kernel_rfl) (by kernel_rfl) (by kernel_rfl) trivial ?_; simp only [pickL, List.getElem?_cons_succ, List.getElem?_cons_zero]
    go_wp2_with (first
      | ((with_reducible refine wpT_noL ?_ ?_); (focus (first | exact wanted_no _ _ _ rfl rfl rfl | exact wanted_un _ _ _ rfl rfl rfl)); simp only [setO, List.set_cons_succ, List.set_cons_zero]) | ((with_reducible refine wpT_q0 ?_ ?_ ?_ ?_); (focus rfl); (focus rfl); (focus rfl); intro K hK) | ((with_reducible refine wpT_i ?_ ?_); (focus (refine ⟨_, _, _, _, _, _, _, _, rfl, rfl, rfl, rfl, rfl, ?_⟩; omega)); intro K hK) | ((with_reducible refine wpT_ncw ?_ ?_ ?_); (focus (first | exact .inl rfl | exact .inr (wanted_yes _ _ _ rfl rfl rfl))); (focus exact ⟨_, _, rfl, rfl, rfl⟩); intro K hK) | ((with_reducible refine wpT_x0 ?_ ?_ ?_); (focus rfl); (focus rfl); intro K hK) | ((with_reducible refine wpT_q1 ?_ ?_ ?_ ?_); (focus exact wanted_yes _ _ _ rfl rfl rfl); (focus rfl); (focus rfl); intro K hK) | ((with_reducible refine wpT_x1 ?_ ?_ ?_); (focus exact wanted_yes _ _ _ rfl rfl rfl); (focus rfl); intro K hK) | ((with_reducible refine wpT_nil ?_); try dsimp only)
      | fail)
    go_ret
    rw [hh.out]
    have hp1 := ho4.out.putE hk (entG g.1[k] (- r.2.2.2.2)) 4 (by omega) (.int .i64 (g.1[k].2.2.2.2 - r.2.2.2.2)) rfl
    have hp2 := hp1.putE (k := i) (by simpa using hi) (entG g.1[i] r.2.2.2.2) 4 (by omega) (.int .i64 (g.1[i].2.2.2.2 + r.2.2.2.2)) (by simp only [List.getElem_set_ne hki4]; rfl)
    dsimp only at hp2
    rw [List.set_comm _ _ hki4] at hp2
    have hb9 := (hbx4.keep (ne_set (i := k * 5 + 4) (.int .i64 (g.1[k].2.2.2.2 - r.2.2.2.2)) (Ne.symm hAx))).keep (ne_set (i := i * 5 + 4) (.int .i64 (g.1[i].2.2.2.2 + r.2.2.2.2)) (Ne.symm hAx))
    have hP : ActPost bx lo gB gE w (((g.1.set i (entG g.1[i] r.2.2.2.2)).set k (entG g.1[k] (- r.2.2.2.2)), g.2.1, g.2.2), 0) (.returned (.int .i64 0)) ((w4.setCell ⟨gA, k * 5 + 4, none⟩ (.int .i64 (g.1[k].2.2.2.2 - r.2.2.2.2))).setCell ⟨gA, i * 5 + 4, none⟩ (.int .i64 (g.1[i].2.2.2.2 + r.2.2.2.2))) :=
      ⟨some ⟨gA, 0, none⟩, n, rfl, hb9, hp2, hnA'.out, (hB4.setCell (p := ⟨gA, k * 5 + 4, none⟩) hgA1 _).setCell (p := ⟨gA, i * 5 + 4, none⟩) hgA1 _⟩
    (repeat (first | exact hP | refine ActPost.dr ?_))
  · have hh := hide (show behG g r = (g, 7) by rw [hact.out, if_pos (by simpa using e2)])
    clear hne1
    go_enter Tryd.func44, Tryd.ntmps44
    go_wp2
    generalize w.alloc (.cells #[.int .i64 r.1, .int .i64 r.2.1, .int .i64 r.2.2.1, .int .i64 r.2.2.2.1, .int .i64 r.2.2.2.2] 37) = w1 at *
    refine wp_region_T (fun _ => True) [] [] [] [0, 1, 2, 3, 4, 5, 6] (by kernel_rfl) (by kernel_rfl) (by kernel_rfl) trivial ?_; simp only [pickL, List.getElem?_cons_succ, List.getElem?_cons_zero]
    go_wp2_with (first
      | (go_at_call 70; refine (figure_some _ n n (some ⟨gB, 0, none⟩) 16 16 (some ⟨gE, 0, none⟩) 4 4 lo w1.heap.size r.1 g.1 w1.drew (show RdN 5 (flatR encEnt) w1.drew lo w1.heap.size _ n n g.1 from Own.rdn (w := w1.drew) encEnt_len ho1.out.en.drew) (Nat.le_refl _) k hfi).mono ?_; rintro e w2 ⟨rfl, hb2⟩; have hb12 : Below w1.heap.size w1 w2 := Below.appR (Below.drew (Below.refl _ _)) hb2; have hbx2 := hbx1.below hb12 hlx; have hbr2 := hbr1.below hb12 hlr; have ho2 := hide (ho1.out.below hb12); have hz2 := hb12.size; have hB2 : Below lo w w2 := (hA1.mono (by omega)).trans (hb12.mono (by omega)); clear xx0 xx1 xx2 xf0 xf1 xf2 rr0 rr1 rr2 rr3 rr4; obtain ⟨xx0, xx1, xx2, xf0, xf1, xf2⟩ := hbx2.cells; obtain ⟨rr0, rr1, rr2, rr3, rr4, -⟩ := hbr2.cells; have hlx2 := hbx2.lt; have hlr2 := hbr2.lt)
      | ((with_reducible refine wpT_noL ?_ ?_); (focus (first | exact wanted_no _ _ _ rfl rfl rfl | exact wanted_un _ _ _ rfl rfl rfl)); simp only [setO, List.set_cons_succ, List.set_cons_zero]) | ((with_reducible refine wpT_q0 ?_ ?_ ?_ ?_); (focus rfl); (focus rfl); (focus rfl); intro K hK) | ((with_reducible refine wpT_i ?_ ?_); (focus (refine ⟨_, _, _, _, _, _, _, _, rfl, rfl, rfl, rfl, rfl, ?_⟩; omega)); intro K hK) | ((with_reducible refine wpT_ncw ?_ ?_ ?_); (focus (first | exact .inl rfl | exact .inr (wanted_yes _ _ _ rfl rfl rfl))); (focus exact ⟨_, _, rfl, rfl, rfl⟩); intro K hK) | ((with_reducible refine wpT_x0 ?_ ?_ ?_); (focus rfl); (focus rfl); intro K hK) | ((with_reducible refine wpT_q1 ?_ ?_ ?_ ?_); (focus exact wanted_yes _ _ _ rfl rfl rfl); (focus rfl); (focus rfl); intro K hK) | ((with_reducible refine wpT_x1 ?_ ?_ ?_); (focus exact wanted_yes _ _ _ rfl rfl rfl); (focus rfl); intro K hK) | ((with_reducible refine wpT_nil ?_); try dsimp only)
      | fail)
    obtain ⟨d0, d1, d2, d3, d4⟩ := (ho2.out.en.slAt encEnt_len).2.2.getEnt hk
    simp only [Nat.zero_add] at d0 d1 d2 d3 d4
    have df0 := ho2.out.en.frozen (k * 5)
    have df1 := ho2.out.en.frozen (k * 5 + 1)
    have df2 := ho2.out.en.frozen (k * 5 + 2)
    have df3 := ho2.out.en.frozen (k * 5 + 3)
    have df4 := ho2.out.en.frozen (k * 5 + 4)
    have hgA3 := (ho2.out.en.lt gA rfl).2
    go_wp2
    refine wp_region_T (fun _ => True) [] [] [] [0, 1, 2, 3, 4, 5, 6] (by kernel_rfl) (by kernel_rfl) (by kernel_rfl) trivial ?_; simp only [pickL, List.getElem?_cons_succ, List.getElem?_cons_zero]
    go_wp2_with (first
      | (go_at_call 70; refine (figure_some (some ⟨gA, 0, none⟩) n n (some ⟨gB, 0, none⟩) 16 16 (some ⟨gE, 0, none⟩) 4 4 lo w2.heap.size r.2.2.2.1 g.1 w2.drew (show RdN 5 (flatR encEnt) w2.drew lo w2.heap.size (some ⟨gA, 0, none⟩) n n g.1 from Own.rdn (w := w2.drew) encEnt_len ho2.out.en.drew) (Nat.le_refl _) i hfj).mono ?_; rintro e w3 ⟨rfl, hb3⟩; have hb23 : Below w2.heap.size w2 w3 := Below.appR (Below.drew (Below.refl _ _)) hb3; have hbx3 := hbx2.below hb23 hlx2; have hbr3 := hbr2.below hb23 hlr2; have ho3 := hide (ho2.out.below hb23); have hz3 := hb23.size; have hB3 : Below lo w w3 := hB2.trans (hb23.mono (by omega)); clear xx0 xx1 xx2 xf0 xf1 xf2 rr0 rr1 rr2 rr3 rr4; obtain ⟨xx0, xx1, xx2, xf0, xf1, xf2⟩ := hbx3.cells; obtain ⟨rr0, rr1, rr2, rr3, rr4, -⟩ := hbr3.cells; have hlx3 := hbx3.lt; have hlr3 := hbr3.lt; clear d0 d1 d2 d3 d4 df0 df1 df2 df3 df4; obtain ⟨d0, d1, d2, d3, d4⟩ := (ho3.out.en.slAt encEnt_len).2.2.getEnt hk; simp only [Nat.zero_add] at d0 d1 d2 d3 d4; have df0 := ho3.out.en.frozen (k * 5); have df1 := ho3.out.en.frozen (k * 5 + 1); have df2 := ho3.out.en.frozen (k * 5 + 2); have df3 := ho3.out.en.frozen (k * 5 + 3); have df4 := ho3.out.en.frozen (k * 5 + 4); have hgA4 := (ho3.out.en.lt gA rfl).2)
      | ((with_reducible refine wpT_noL ?_ ?_); (focus (first | exact wanted_no _ _ _ rfl rfl rfl | exact wanted_un _ _ _ rfl rfl rfl)); simp only [setO, List.set_cons_succ, List.set_cons_zero]) | ((with_reducible refine wpT_q0 ?_ ?_ ?_ ?_); (focus rfl); (focus rfl); (focus rfl); intro K hK) | ((with_reducible refine wpT_i ?_ ?_); (focus (refine ⟨_, _, _, _, _, _, _, _, rfl, rfl, rfl, rfl, rfl, ?_⟩; omega)); intro K hK) | ((with_reducible refine wpT_ncw ?_ ?_ ?_); (focus (first | exact .inl rfl | exact .inr (wanted_yes _ _ _ rfl rfl rfl))); (focus exact ⟨_, _, rfl, rfl, rfl⟩); intro K hK) | ((with_reducible refine wpT_x0 ?_ ?_ ?_); (focus rfl); (focus rfl); intro K hK) | ((with_reducible refine wpT_q1 ?_ ?_ ?_ ?_); (focus exact wanted_yes _ _ _ rfl rfl rfl); (focus rfl); (focus rfl); intro K hK) | ((with_reducible refine wpT_x1 ?_ ?_ ?_); (focus exact wanted_yes _ _ _ rfl rfl rfl); (focus rfl); intro K hK) | ((with_reducible refine wpT_nil ?_); try dsimp only)
      | fail)
    obtain ⟨i0, i1, i2, i3, i4⟩ := (ho3.out.en.slAt encEnt_len).2.2.getEnt hi
    simp only [Nat.zero_add] at i0 i1 i2 i3 i4
    have if0 := ho3.out.en.frozen (i * 5)
    have if1 := ho3.out.en.frozen (i * 5 + 1)
    have if2 := ho3.out.en.frozen (i * 5 + 2)
    have if3 := ho3.out.en.frozen (i * 5 + 3)
    have if4 := ho3.out.en.frozen (i * 5 + 4)
    refine wp_region_T (fun _ => True) [] [] [] [0, 1, 2, 3, 4, 5, 6, 7, 8, 9, 10, 11, 12, 13, 14, 15, 16, 17, 18, 19, 20] (by kernel_rfl) (by kernel_rfl) (by kernel_rfl) trivial ?_; simp only [pickL, List.getElem?_cons_succ, List.getElem?_cons_zero]
    go_wp2_with (first
      | (go_at_call 73; refine (nearI_c g.1[k] g.1[i] _ ⟨hek.2.1, hek.2.2.1⟩ ⟨hei.2.1, hei.2.2.1⟩).mono ?_; rintro e w4 ⟨rfl, hb4⟩; simp only [hnq]; have hb34 : Below w3.heap.size w3 w4 := Below.appR (Below.drew (Below.refl _ _)) hb4; have hbx4 := hbx3.below hb34 hlx3; have hbr4 := hbr3.below hb34 hlr3; have ho4 := hide (ho3.out.below hb34); have hz4 := hb34.size; have hB4 : Below lo w w4 := hB3.trans (hb34.mono (by omega)); clear xx0 xx1 xx2 xf0 xf1 xf2 rr0 rr1 rr2 rr3 rr4; obtain ⟨xx0, xx1, xx2, xf0, xf1, xf2⟩ := hbx4.cells; obtain ⟨rr0, rr1, rr2, rr3, rr4, -⟩ := hbr4.cells; have hlx4 := hbx4.lt; have hlr4 := hbr4.lt; clear d0 d1 d2 d3 d4 df0 df1 df2 df3 df4; obtain ⟨d0, d1, d2, d3, d4⟩ := (ho4.out.en.slAt encEnt_len).2.2.getEnt hk; simp only [Nat.zero_add] at d0 d1 d2 d3 d4; have df0 := ho4.out.en.frozen (k * 5); have df1 := ho4.out.en.frozen (k * 5 + 1); have df2 := ho4.out.en.frozen (k * 5 + 2); have df3 := ho4.out.en.frozen (k * 5 + 3); have df4 := ho4.out.en.frozen (k * 5 + 4); clear i0 i1 i2 i3 i4 if0 if1 if2 if3 if4; obtain ⟨i0, i1, i2, i3, i4⟩ := (ho4.out.en.slAt encEnt_len).2.2.getEnt hi; simp only [Nat.zero_add] at i0 i1 i2 i3 i4; have if0 := ho4.out.en.frozen (i * 5); have if1 := ho4.out.en.frozen (i * 5 + 1); have if2 := ho4.out.en.frozen (i * 5 + 2); have if3 := ho4.out.en.frozen (i * 5 + 3); have if4 := ho4.out.en.frozen (i * 5 + 4); have hgA5 := (ho4.out.en.lt gA rfl).2)
      | ((with_reducible refine wpT_noL ?_ ?_); (focus (first | exact wanted_no _ _ _ rfl rfl rfl | exact wanted_un _ _ _ rfl rfl rfl)); simp only [setO, List.set_cons_succ, List.set_cons_zero]) | ((with_reducible refine wpT_q0 ?_ ?_ ?_ ?_); (focus rfl); (focus rfl); (focus rfl); intro K hK) | ((with_reducible refine wpT_i ?_ ?_); (focus (refine ⟨_, _, _, _, _, _, _, _, rfl, rfl, rfl, rfl, rfl, ?_⟩; omega)); intro K hK) | ((with_reducible refine wpT_ncw ?_ ?_ ?_); (focus (first | exact .inl rfl | exact .inr (wanted_yes _ _ _ rfl rfl rfl))); (focus exact ⟨_, _, rfl, rfl, rfl⟩); intro K hK) | ((with_reducible refine wpT_x0 ?_ ?_ ?_); (focus rfl); (focus rfl); intro K hK) | ((with_reducible refine wpT_q1 ?_ ?_ ?_ ?_); (focus exact wanted_yes _ _ _ rfl rfl rfl); (focus rfl); (focus rfl); intro K hK) | ((with_reducible refine wpT_x1 ?_ ?_ ?_); (focus exact wanted_yes _ _ _ rfl rfl rfl); (focus rfl); intro K hK) | ((with_reducible refine wpT_nil ?_); try dsimp only)
      | fail)
    refine wp_region_T (fun _ => True) [] [] [] [0, 1, 2, 3, 4, 5, 6] (by kernel_rfl) (by kernel_rfl) (by kernel_rfl) trivial ?_; simp only [pickL, List.getElem?_cons_succ, List.getElem?_cons_zero]
    go_wp2_with (first
      | ((with_reducible refine wpT_noL ?_ ?_); (focus (first | exact wanted_no _ _ _ rfl rfl rfl | exact wanted_un _ _ _ rfl rfl rfl)); simp only [setO, List.set_cons_succ, List.set_cons_zero]) | ((with_reducible refine wpT_q0 ?_ ?_ ?_ ?_); (focus rfl); (focus rfl); (focus rfl); intro K hK) | ((with_reducible refine wpT_i ?_ ?_); (focus (refine ⟨_, _, _, _, _, _, _, _, rfl, rfl, rfl, rfl, rfl, ?_⟩; omega)); intro K hK) | ((with_reducible refine wpT_ncw ?_ ?_ ?_); (focus (first | exact .inl rfl | exact .inr (wanted_yes _ _ _ rfl rfl rfl))); (focus exact ⟨_, _, rfl, rfl, rfl⟩); intro K hK) | ((with_reducible refine wpT_x0 ?_ ?_ ?_); (focus rfl); (focus rfl); intro K hK) | ((with_reducible refine wpT_q1 ?_ ?_ ?_ ?_); (focus exact wanted_yes _ _ _ rfl rfl rfl); (focus rfl); (focus rfl); intro K hK) | ((with_reducible refine wpT_x1 ?_ ?_ ?_); (focus exact wanted_yes _ _ _ rfl rfl rfl); (focus rfl); intro K hK) | ((with_reducible refine wpT_nil ?_); try dsimp only)
      | fail)
    go_ret
    rw [hh.out]
    have hP := ActPost.same 7 hbx4 ho4.out hnA'.out hB4
    (repeat (first | exact hP | refine ActPost.dr ?_))
end Go.Proofs.YtajmfonepnkofaaDoor
