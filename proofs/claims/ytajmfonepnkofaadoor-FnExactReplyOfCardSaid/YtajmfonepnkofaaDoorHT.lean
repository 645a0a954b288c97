/-
  'act' (the program's game): move, take, far ones. (Printed by gen_ht.py.)
  Conditions: none.
-/
import Derived.Test.YtajmfonepnkofaaDoorHS
namespace Go.Proofs.YtajmfonepnkofaaDoor
open Go.RowKit Rg
set_option linter.unusedVariables false
set_option linter.unusedSimpArgs false

section
variable {w : World} {lo gA gB gE n : Nat} {g : GameT}
theorem GmO.sep (h : GmO w lo (some ⟨gA, 0, none⟩) n n (some ⟨gB, 0, none⟩) 16 16 (some ⟨gE, 0, none⟩) 4 4 g) : gA ≠ gB ∧ gA ≠ gE ∧ gB ≠ gE :=
  ⟨fun e => h.ab gA rfl (by simp [Value.ownBlock, e]), fun e => h.ae gA rfl (by simp [Value.ownBlock, e]), fun e => h.be gB rfl (by simp [Value.ownBlock, e])⟩
theorem GmO.putE (h : GmO w lo (some ⟨gA, 0, none⟩) n n (some ⟨gB, 0, none⟩) 16 16 (some ⟨gE, 0, none⟩) 4 4 g) {k : Nat} (hk : k < g.1.length) (x : EntT) (j : Nat) (hj : j < 5) (u : Value) (hx : encEnt x = (encEnt g.1[k]).set j u) :
    GmO (w.setCell ⟨gA, k * 5 + j, none⟩ u) lo (some ⟨gA, 0, none⟩) n n (some ⟨gB, 0, none⟩) 16 16 (some ⟨gE, 0, none⟩) 4 4 (g.1.set k x, g.2.1, g.2.2) :=
  ⟨h.en.put1 encEnt_len hk x j hj u hx, h.fl.keep (fun b hb => ne_set _ (by simp [Value.ownBlock] at hb; have := h.sep; omega)), h.la.keep (fun b hb => ne_set _ (by simp [Value.ownBlock] at hb; have := h.sep; omega)), h.ab, h.ae, h.be⟩
theorem GmO.putF {A : Option Addr} (h : GmO w lo A n n (some ⟨gB, 0, none⟩) 16 16 (some ⟨gE, 0, none⟩) 4 4 g) {s : Nat} (hs : s < g.2.1.length) (u : Int) :
    GmO (w.setCell ⟨gB, s, none⟩ (.int .i64 u)) lo A n n (some ⟨gB, 0, none⟩) 16 16 (some ⟨gE, 0, none⟩) 4 4 (g.1, g.2.1.set s u, g.2.2) := by
  have h1 := h.fl.put1 encI_len hs u 0 (by omega) (.int .i64 u) rfl
  rw [Nat.mul_one, Nat.add_zero] at h1
  have hbe : gB ≠ gE := fun e => h.be gB rfl (by simp [Value.ownBlock, e])
  exact ⟨h.en.keep (fun b hb => ne_set _ (fun e => h.ab b hb (by simp [Value.ownBlock, e]))), h1, h.la.keep (fun b hb => ne_set _ (by simp [Value.ownBlock] at hb; omega)), h.ab, h.ae, h.be⟩
end
theorem floor0_c (A : Option Addr) (n c : Nat) (g1 d : Nat) (E : Option Addr) (q f : Nat) (t : EntT) (w : World) (ht : smallE t) (s : Nat) (hs : sqr t = s) :
    Calls Tryd.prog 72 #[.agg #[.slice A n c, .slice (some ⟨g1, 0, none⟩) 16 d, .slice E q f], .agg #[.int .i64 t.1, .int .i64 t.2.1, .int .i64 t.2.2.1, .int .i64 t.2.2.2.1, .int .i64 t.2.2.2.2]] w fun e w' => e = .returned (.pointer (some ⟨g1, s, none⟩)) ∧ Below w.heap.size w w' := by
  have h := floor_c A n c g1 0 d E q f t w ht
  rw [Nat.zero_add, hs] at h
  exact h

set_option maxRecDepth 100000 in
set_option maxHeartbeats 2000000 in
theorem actMove (bx lo gB gE : Nat) (A : Option Addr) (n : Nat) (g : GameT) (r : AskT) (w : World) (hbx : Bx3 w bx (.slice A n n) (.slice (some ⟨gB, 0, none⟩) 16 16) (.slice (some ⟨gE, 0, none⟩) 4 4) 35) (ho : GmO w lo A n n (some ⟨gB, 0, none⟩) 16 16 (some ⟨gE, 0, none⟩) 4 4 g)
    (hlo : lo ≤ bx) (hnA : ∀ k, (Value.slice A n n).ownBlock = some k → k ≠ bx) (hnB : gB ≠ bx) (hnE : gE ≠ bx) (hok : okG' g) (hr : okA r) (k : Nat) (hfi : figI g.1 r.1 = some k) (hop : r.2.2.1 = 2) :
    Calls Tryd.prog 44 #[.pointer (some ⟨bx, 0, none⟩), .agg #[.int .i64 r.1, .int .i64 r.2.1, .int .i64 r.2.2.1, .int .i64 r.2.2.2.1, .int .i64 r.2.2.2.2]] w fun e w' => ActPost bx lo gB gE w (behG g r) e w' := by
  have hA1 := (Below.refl w.heap.size w).alloc (Nat.le_refl _) (.cells #[.int .i64 r.1, .int .i64 r.2.1, .int .i64 r.2.2.1, .int .i64 r.2.2.2.1, .int .i64 r.2.2.2.2] 37)
  have hbr1 := Bx5.made w r 37
  have hbx1 := hbx.below hA1 hbx.lt
  have ho1 := hide (ho.below hA1)
  have hz1 : w.heap.size + 1 ≤ (w.alloc (.cells #[.int .i64 r.1, .int .i64 r.2.1, .int .i64 r.2.2.1, .int .i64 r.2.2.2.1, .int .i64 r.2.2.2.2] 37)).heap.size := by simp only [World.size_alloc]; omega
  have hbl := hbx.lt
  obtain ⟨xx0, xx1, xx2, xf0, xf1, xf2⟩ := hbx1.cells
  obtain ⟨rr0, rr1, rr2, rr3, rr4, -⟩ := hbr1.cells
  have hlx := hbx1.lt
  have hlr := hbr1.lt
  have hn' := hide ho.en.lenEq
  have hn4 : n ≤ 4 := by
    have h3 := inc_len hok.inc (fun e he => (hok.ent e he).1)
    have := hn'.out
    omega
  have hok' := hide hok
  have hrH := hide hr
  have hnA' := hide hnA
  have hoH := hide ho
  clear hok hr ho hbx hnA
  have hq1 : (r.2.2.1 == 1) = false := by simp [hop]
  have hq2 : (r.2.2.1 == 2) = true := by simp [hop]
  have hrx : -1 ≤ r.2.2.2.1 ∧ r.2.2.2.1 ≤ 1 ∧ -1 ≤ r.2.2.2.2 ∧ r.2.2.2.2 ≤ 1 := by have := hrH.out; unfold okA rng at this; omega
  have hopp := hide hop
  clear hop
  have hk := figI_lt hfi
  have hkn : k < n := by have := hn'.out; omega
  obtain ⟨gA, rfl, hgA1, hgA2⟩ := ho1.out.en.addrAt (show 0 < n by omega)
  have hAx : gA ≠ bx := hnA'.out gA rfl
  obtain ⟨hAB, hAE, hBE⟩ := ho1.out.sep
  have hAw := (hoH.out.en.lt gA rfl).2
  have hBw := (hoH.out.fl.lt gB rfl).2
  have hAw1 : ¬ w.heap.size = gA := by omega
  have hAw2 : ¬ gA = w.heap.size := by omega
  have hBw1 : ¬ w.heap.size = gB := by omega
  have hBw2 : ¬ gB = w.heap.size := by omega
  have hek := (okG'.full hok'.out).ent _ (List.getElem_mem hk)
  unfold entOk rng at hek
  have hk0 : decide ((k : Int) < 0) = false := by simp <;> omega
  cases hq6 : (inB (g.1[k].2.1 + r.2.2.2.1) 0 3 && inB (g.1[k].2.2.1 + r.2.2.2.2) 0 3)
  · have hh := hide (show behG g r = (g, 6) by
      unfold behG actG; rw [hfi]; simp only [hopp.out, getD_at hk]; simp only [show ¬ (2 : Int) = 1 by decide, if_false, if_true]
      rw [if_neg]; rintro ⟨h1, h2⟩; unfold rng at h1 h2; simp [inB] at hq6; omega)
    go_enter Tryd.func44, Tryd.ntmps44
    go_wp2
    generalize w.alloc (.cells #[.int .i64 r.1, .int .i64 r.2.1, .int .i64 r.2.2.1, .int .i64 r.2.2.2.1, .int .i64 r.2.2.2.2] 37) = w1 at *
    refine wp_region_T (fun _ => True) [] [] [] [0, 1, 2, 3, 4, 5, 6] (by kernel_rfl) (by kernel_rfl) (by kernel_rfl) trivial ?_; simp only [pickL, List.getElem?_cons_succ, List.getElem?_cons_zero]
    go_wp2_with (first
      | (go_at_call 70; refine (figure_some _ n n (some ⟨gB, 0, none⟩) 16 16 (some ⟨gE, 0, none⟩) 4 4 lo w1.heap.size r.1 g.1 w1.drew (show RdN 5 (flatR encEnt) w1.drew lo w1.heap.size _ n n g.1 from Own.rdn (w := w1.drew) encEnt_len ho1.out.en.drew) (Nat.le_refl _) k hfi).mono ?_; rintro e w2 ⟨rfl, hb2⟩; have hb12 : Below w1.heap.size w1 w2 := Below.appR (Below.drew (Below.refl _ _)) hb2; have hbx2 := hbx1.below hb12 hlx; have hbr2 := hbr1.below hb12 hlr; have ho2 := hide (ho1.out.below hb12); have hz2 := hb12.size; have hB2 : Below lo w w2 := (hA1.mono (by omega)).trans (hb12.mono (by omega)); clear xx0 xx1 xx2 xf0 xf1 xf2 rr0 rr1 rr2 rr3 rr4; obtain ⟨xx0, xx1, xx2, xf0, xf1, xf2⟩ := hbx2.cells; obtain ⟨rr0, rr1, rr2, rr3, rr4, -⟩ := hbr2.cells; have hlx2 := hbx2.lt; have hlr2 := hbr2.lt)
      | ((with_reducible refine wpT_noL ?_ ?_); (focus (first | exact wanted_no _ _ _ rfl rfl rfl | exact wanted_un _ _ _ rfl rfl rfl)); simp only [setO, List.set_cons_succ, List.set_cons_zero]) | ((with_reducible refine wpT_q0 ?_ ?_ ?_ ?_); (focus rfl); (focus rfl); (focus rfl); intro K hK) | ((with_reducible refine wpT_i ?_ ?_); (focus (refine ⟨_, _, _, _, _, _, _, _, rfl, rfl, rfl, rfl, rfl, ?_⟩; omega)); intro K hK) | ((with_reducible refine wpT_ncw ?_ ?_ ?_); (focus (first | exact .inl rfl | exact .inr (wanted_yes _ _ _ rfl rfl rfl))); (focus exact ⟨_, _, rfl, rfl, rfl⟩); intro K hK) | ((with_reducible refine wpT_x0 ?_ ?_ ?_); (focus rfl); (focus rfl); intro K hK) | ((with_reducible refine wpT_q1 ?_ ?_ ?_ ?_); (focus exact wanted_yes _ _ _ rfl rfl rfl); (focus rfl); (focus rfl); intro K hK) | ((with_reducible refine wpT_x1 ?_ ?_ ?_); (focus exact wanted_yes _ _ _ rfl rfl rfl); (focus rfl); intro K hK) | ((with_reducible refine wpT_nil ?_); try dsimp only)
      | fail)
    obtain ⟨d0, d1, d2, d3, d4⟩ := (ho2.out.en.slAt encEnt_len).2.2.getEnt hk
    simp only [Nat.zero_add] at d0 d1 d2 d3 d4
    have df0 := ho2.out.en.frozen (k * 5)
    have df1 := ho2.out.en.frozen (k * 5 + 1)
    have df2 := ho2.out.en.frozen (k * 5 + 2)
    have df3 := ho2.out.en.frozen (k * 5 + 3)
    have df4 := ho2.out.en.frozen (k * 5 + 4)
    have hgA3 := (ho2.out.en.lt gA rfl).2
    go_wp2
    refine wp_region_T (fun _ => True) [] [] [] [0, 1, 2, 3, 4, 5, 6, 7, 8, 9, 10, 11, 12, 13, 14, 15] (by kernel_rfl) (by kernel_rfl) (by kernel_rfl) trivial ?_; simp only [pickL, List.getElem?_cons_succ, List.getElem?_cons_zero]
    go_wp2_with (first
      | (go_at_call 55; refine (onBoard_c _ _ _).mono ?_; rintro e _ ⟨rfl, rfl⟩; simp only [hq6])
      | ((with_reducible refine wpT_noL ?_ ?_); (focus (first | exact wanted_no _ _ _ rfl rfl rfl | exact wanted_un _ _ _ rfl rfl rfl)); simp only [setO, List.set_cons_succ, List.set_cons_zero]) | ((with_reducible refine wpT_q0 ?_ ?_ ?_ ?_); (focus rfl); (focus rfl); (focus rfl); intro K hK) | ((with_reducible refine wpT_i ?_ ?_); (focus (refine ⟨_, _, _, _, _, _, _, _, rfl, rfl, rfl, rfl, rfl, ?_⟩; omega)); intro K hK) | ((with_reducible refine wpT_ncw ?_ ?_ ?_); (focus (first | exact .inl rfl | exact .inr (wanted_yes _ _ _ rfl rfl rfl))); (focus exact ⟨_, _, rfl, rfl, rfl⟩); intro K hK) | ((with_reducible refine wpT_x0 ?_ ?_ ?_); (focus rfl); (focus rfl); intro K hK) | ((with_reducible refine wpT_q1 ?_ ?_ ?_ ?_); (focus exact wanted_yes _ _ _ rfl rfl rfl); (focus rfl); (focus rfl); intro K hK) | ((with_reducible refine wpT_x1 ?_ ?_ ?_); (focus exact wanted_yes _ _ _ rfl rfl rfl); (focus rfl); intro K hK) | ((with_reducible refine wpT_nil ?_); try dsimp only)
      | fail)
    go_ret
    rw [hh.out]
    have hP := ActPost.same 6 hbx2 ho2.out hnA'.out hB2
    (repeat (first | exact hP | refine ActPost.dr ?_))
  · have hh := hide (show behG g r = ((g.1.set k (g.1[k].1, g.1[k].2.1 + r.2.2.2.1, g.1[k].2.2.1 + r.2.2.2.2, g.1[k].2.2.2.1, g.1[k].2.2.2.2), g.2.1, g.2.2), 0) by
      unfold behG actG; rw [hfi]; simp only [hopp.out, getD_at hk]; simp only [show ¬ (2 : Int) = 1 by decide, if_false, if_true]
      rw [if_pos]
      · rfl
      · simp [inB] at hq6; unfold rng; omega)
    go_enter Tryd.func44, Tryd.ntmps44
    go_wp2
    generalize w.alloc (.cells #[.int .i64 r.1, .int .i64 r.2.1, .int .i64 r.2.2.1, .int .i64 r.2.2.2.1, .int .i64 r.2.2.2.2] 37) = w1 at *
    refine wp_region_T (fun _ => True) [] [] [] [0, 1, 2, 3, 4, 5, 6] (by kernel_rfl) (by kernel_rfl) (by kernel_rfl) trivial ?_; simp only [pickL, List.getElem?_cons_succ, List.getElem?_cons_zero]
    go_wp2_with (first
      | (go_at_call 70; refine (figure_some _ n n (some ⟨gB, 0, none⟩) 16 16 (some ⟨gE, 0, none⟩) 4 4 lo w1.heap.size r.1 g.1 w1.drew (show RdN 5 (flatR encEnt) w1.drew lo w1.heap.size _ n n g.1 from Own.rdn (w := w1.drew) encEnt_len ho1.out.en.drew) (Nat.le_refl _) k hfi).mono ?_; rintro e w2 ⟨rfl, hb2⟩; have hb12 : Below w1.heap.size w1 w2 := Below.appR (Below.drew (Below.refl _ _)) hb2; have hbx2 := hbx1.below hb12 hlx; have hbr2 := hbr1.below hb12 hlr; have ho2 := hide (ho1.out.below hb12); have hz2 := hb12.size; have hB2 : Below lo w w2 := (hA1.mono (by omega)).trans (hb12.mono (by omega)); clear xx0 xx1 xx2 xf0 xf1 xf2 rr0 rr1 rr2 rr3 rr4; obtain ⟨xx0, xx1, xx2, xf0, xf1, xf2⟩ := hbx2.cells; obtain ⟨rr0, rr1, rr2, rr3, rr4, -⟩ := hbr2.cells; have hlx2 := hbx2.lt; have hlr2 := hbr2.lt)
      | ((with_reducible refine wpT_noL ?_ ?_); (focus (first | exact wanted_no _ _ _ rfl rfl rfl | exact wanted_un _ _ _ rfl rfl rfl)); simp only [setO, List.set_cons_succ, List.set_cons_zero]) | ((with_reducible refine wpT_q0 ?_ ?_ ?_ ?_); (focus rfl); (focus rfl); (focus rfl); intro K hK) | ((with_reducible refine wpT_i ?_ ?_); (focus (refine ⟨_, _, _, _, _, _, _, _, rfl, rfl, rfl, rfl, rfl, ?_⟩; omega)); intro K hK) | ((with_reducible refine wpT_ncw ?_ ?_ ?_); (focus (first | exact .inl rfl | exact .inr (wanted_yes _ _ _ rfl rfl rfl))); (focus exact ⟨_, _, rfl, rfl, rfl⟩); intro K hK) | ((with_reducible refine wpT_x0 ?_ ?_ ?_); (focus rfl); (focus rfl); intro K hK) | ((with_reducible refine wpT_q1 ?_ ?_ ?_ ?_); (focus exact wanted_yes _ _ _ rfl rfl rfl); (focus rfl); (focus rfl); intro K hK) | ((with_reducible refine wpT_x1 ?_ ?_ ?_); (focus exact wanted_yes _ _ _ rfl rfl rfl); (focus rfl); intro K hK) | ((with_reducible refine wpT_nil ?_); try dsimp only)
      | fail)
    obtain ⟨d0, d1, d2, d3, d4⟩ := (ho2.out.en.slAt encEnt_len).2.2.getEnt hk
    simp only [Nat.zero_add] at d0 d1 d2 d3 d4
    have df0 := ho2.out.en.frozen (k * 5)
    have df1 := ho2.out.en.frozen (k * 5 + 1)
    have df2 := ho2.out.en.frozen (k * 5 + 2)
    have df3 := ho2.out.en.frozen (k * 5 + 3)
    have df4 := ho2.out.en.frozen (k * 5 + 4)
    have hgA3 := (ho2.out.en.lt gA rfl).2
    go_wp2
    refine wp_region_T (fun _ => True) [] [] [] [0, 1, 2, 3, 4, 5, 6, 7, 8, 9, 10, 11, 12, 13, 14, 15] (by kernel_rfl) (by kernel_rfl) (by kernel_rfl) trivial ?_; simp only [pickL, List.getElem?_cons_succ, List.getElem?_cons_zero]
    go_wp2_with (first
      | (go_at_call 55; refine (onBoard_c _ _ _).mono ?_; rintro e _ ⟨rfl, rfl⟩; simp only [hq6])
      | ((with_reducible refine wpT_noL ?_ ?_); (focus (first | exact wanted_no _ _ _ rfl rfl rfl | exact wanted_un _ _ _ rfl rfl rfl)); simp only [setO, List.set_cons_succ, List.set_cons_zero]) | ((with_reducible refine wpT_q0 ?_ ?_ ?_ ?_); (focus rfl); (focus rfl); (focus rfl); intro K hK) | ((with_reducible refine wpT_i ?_ ?_); (focus (refine ⟨_, _, _, _, _, _, _, _, rfl, rfl, rfl, rfl, rfl, ?_⟩; omega)); intro K hK) | ((with_reducible refine wpT_ncw ?_ ?_ ?_); (focus (first | exact .inl rfl | exact .inr (wanted_yes _ _ _ rfl rfl rfl))); (focus exact ⟨_, _, rfl, rfl, rfl⟩); intro K hK) | ((with_reducible refine wpT_x0 ?_ ?_ ?_); (focus rfl); (focus rfl); intro K hK) | ((with_reducible refine wpT_q1 ?_ ?_ ?_ ?_); (focus exact wanted_yes _ _ _ rfl rfl rfl); (focus rfl); (focus rfl); intro K hK) | ((with_reducible refine wpT_x1 ?_ ?_ ?_); (focus exact wanted_yes _ _ _ rfl rfl rfl); (focus rfl); intro K hK) | ((with_reducible refine wpT_nil ?_); try dsimp only)
      | fail)
    refine wp_region_T (fun _ => True) [] [] [] [0, 1, 2, 3, 4, 5, 6, 7, 8, 9] (by kernel_rfl) (by kernel_rfl) (by kernel_rfl) trivial ?_; simp only [pickL, List.getElem?_cons_succ, List.getElem?_cons_zero]
    go_wp2_with (first
      | ((with_reducible refine wpT_noL ?_ ?_); (focus (first | exact wanted_no _ _ _ rfl rfl rfl | exact wanted_un _ _ _ rfl rfl rfl)); simp only [setO, List.set_cons_succ, List.set_cons_zero]) | ((with_reducible refine wpT_q0 ?_ ?_ ?_ ?_); (focus rfl); (focus rfl); (focus rfl); intro K hK) | ((with_reducible refine wpT_i ?_ ?_); (focus (refine ⟨_, _, _, _, _, _, _, _, rfl, rfl, rfl, rfl, rfl, ?_⟩; omega)); intro K hK) | ((with_reducible refine wpT_ncw ?_ ?_ ?_); (focus (first | exact .inl rfl | exact .inr (wanted_yes _ _ _ rfl rfl rfl))); (focus exact ⟨_, _, rfl, rfl, rfl⟩); intro K hK) | ((with_reducible refine wpT_x0 ?_ ?_ ?_); (focus rfl); (focus rfl); intro K hK) | ((with_reducible refine wpT_q1 ?_ ?_ ?_ ?_); (focus exact wanted_yes _ _ _ rfl rfl rfl); (focus rfl); (focus rfl); intro K hK) | ((with_reducible refine wpT_x1 ?_ ?_ ?_); (focus exact wanted_yes _ _ _ rfl rfl rfl); (focus rfl); intro K hK) | ((with_reducible refine wpT_nil ?_); try dsimp only)
      | fail)
    refine wp_region_T (fun _ => True) [] [] [] [0, 1, 2, 3, 4, 5, 6, 7, 8, 9] (by kernel_rfl) (by kernel_rfl) (by kernel_rfl) trivial ?_; simp only [pickL, List.getElem?_cons_succ, List.getElem?_cons_zero]
    go_wp2_with (first
      | ((with_reducible refine wpT_noL ?_ ?_); (focus (first | exact wanted_no _ _ _ rfl rfl rfl | exact wanted_un _ _ _ rfl rfl rfl)); simp only [setO, List.set_cons_succ, List.set_cons_zero]) | ((with_reducible refine wpT_q0 ?_ ?_ ?_ ?_); (focus rfl); (focus rfl); (focus rfl); intro K hK) | ((with_reducible refine wpT_i ?_ ?_); (focus (refine ⟨_, _, _, _, _, _, _, _, rfl, rfl, rfl, rfl, rfl, ?_⟩; omega)); intro K hK) | ((with_reducible refine wpT_ncw ?_ ?_ ?_); (focus (first | exact .inl rfl | exact .inr (wanted_yes _ _ _ rfl rfl rfl))); (focus exact ⟨_, _, rfl, rfl, rfl⟩); intro K hK) | ((with_reducible refine wpT_x0 ?_ ?_ ?_); (focus rfl); (focus rfl); intro K hK) | ((with_reducible refine wpT_q1 ?_ ?_ ?_ ?_); (focus exact wanted_yes _ _ _ rfl rfl rfl); (focus rfl); (focus rfl); intro K hK) | ((with_reducible refine wpT_x1 ?_ ?_ ?_); (focus exact wanted_yes _ _ _ rfl rfl rfl); (focus rfl); intro K hK) | ((with_reducible refine wpT_nil ?_); try dsimp only)
      | fail)
    go_ret
    rw [hh.out]
    have hp1 := ho2.out.putE hk (g.1[k].1, g.1[k].2.1 + r.2.2.2.1, g.1[k].2.2.1, g.1[k].2.2.2.1, g.1[k].2.2.2.2) 1 (by omega) (.int .i64 (g.1[k].2.1 + r.2.2.2.1)) rfl
    have hp2 := hp1.putE (k := k) (by simpa using hk) (g.1[k].1, g.1[k].2.1 + r.2.2.2.1, g.1[k].2.2.1 + r.2.2.2.2, g.1[k].2.2.2.1, g.1[k].2.2.2.2) 2 (by omega) (.int .i64 (g.1[k].2.2.1 + r.2.2.2.2)) (by simp only [List.getElem_set_self]; rfl)
    simp only [List.set_set] at hp2
    have hb9 := (hbx2.keep (ne_set (i := k * 5 + 1) (.int .i64 (g.1[k].2.1 + r.2.2.2.1)) (Ne.symm hAx))).keep (ne_set (i := k * 5 + 2) (.int .i64 (g.1[k].2.2.1 + r.2.2.2.2)) (Ne.symm hAx))
    have hP : ActPost bx lo gB gE w ((g.1.set k (g.1[k].1, g.1[k].2.1 + r.2.2.2.1, g.1[k].2.2.1 + r.2.2.2.2, g.1[k].2.2.2.1, g.1[k].2.2.2.2), g.2.1, g.2.2), 0) (.returned (.int .i64 0)) ((w2.setCell ⟨gA, k * 5 + 1, none⟩ (.int .i64 (g.1[k].2.1 + r.2.2.2.1))).setCell ⟨gA, k * 5 + 2, none⟩ (.int .i64 (g.1[k].2.2.1 + r.2.2.2.2))) :=
      ⟨some ⟨gA, 0, none⟩, n, rfl, hb9, hp2, hnA'.out, (hB2.setCell (p := ⟨gA, k * 5 + 1, none⟩) hgA1 _).setCell (p := ⟨gA, k * 5 + 2, none⟩) hgA1 _⟩
    (repeat (first | exact hP | refine ActPost.dr ?_))
end Go.Proofs.YtajmfonepnkofaaDoor
