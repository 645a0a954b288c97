/-
  'act' (the program's game): join; whole. (Printed by gen_hx.py.)
  Conditions: none.
-/
import Derived.Test.YtajmfonepnkofaaDoorHV
import Derived.Test.YtajmfonepnkofaaDoorRegA
import Derived.Test.YtajmfonepnkofaaDoorRegK
import Derived.Test.YtajmfonepnkofaaDoorRegI
namespace Go.Proofs.YtajmfonepnkofaaDoor
open Go.RowKit Rg
set_option linter.unusedVariables false
set_option linter.unusedSimpArgs false

theorem Only.row {B : Nat} {g : Option Nat} {w w' : World} (h : Only B g w w') {b : Nat} (hb : b < B) (hne : g ≠ some b) : w'.heap[b]? = w.heap[b]? := h.block b hb hne

set_option maxRecDepth 100000 in
set_option maxHeartbeats 2000000 in
theorem actJoin (bx lo gB gE : Nat) (A : Option Addr) (n : Nat) (g : GameT) (r : AskT) (w : World) (hbx : Bx3 w bx (.slice A n n) (.slice (some ⟨gB, 0, none⟩) 16 16) (.slice (some ⟨gE, 0, none⟩) 4 4) 35) (ho : GmO w lo A n n (some ⟨gB, 0, none⟩) 16 16 (some ⟨gE, 0, none⟩) 4 4 g)
    (hlo : lo ≤ bx) (hnA : ∀ k, (Value.slice A n n).ownBlock = some k → k ≠ bx) (hnB : gB ≠ bx) (hnE : gE ≠ bx) (hok : okG' g) (hr : okA r) (hfi : figI g.1 r.1 = none) (hop : r.2.2.1 = 1) :
    Calls Tryd.prog 44 #[.pointer (some ⟨bx, 0, none⟩), .agg #[.int .i64 r.1, .int .i64 r.2.1, .int .i64 r.2.2.1, .int .i64 r.2.2.2.1, .int .i64 r.2.2.2.2]] w fun e w' => ActPost bx lo gB gE w (behG g r) e w' := by
  have hA1 := (Below.refl w.heap.size w).alloc (Nat.le_refl _) (.cells #[.int .i64 r.1, .int .i64 r.2.1, .int .i64 r.2.2.1, .int .i64 r.2.2.2.1, .int .i64 r.2.2.2.2] 37)
  have hbr1 := Bx5.made w r 37
  have hbx1 := hbx.below hA1 hbx.lt
  have ho1 := hide (ho.below hA1)
  have hz1 : w.heap.size + 1 ≤ (w.alloc (.cells #[.int .i64 r.1, .int .i64 r.2.1, .int .i64 r.2.2.1, .int .i64 r.2.2.2.1, .int .i64 r.2.2.2.2] 37)).heap.size := by simp only [World.size_alloc]; omega
  have hbl := hbx.lt
  obtain ⟨xx0, xx1, xx2, xf0, xf1, xf2⟩ := hbx1.cells
  obtain ⟨rr0, rr1, rr2, rr3, rr4, -⟩ := hbr1.cells
  have hlx := hbx1.lt
  have hlr := hbr1.lt
  have hn' := hide ho.en.lenEq
  have hn4 : n ≤ 4 := by
    have h3 := inc_len hok.inc (fun e he => (hok.ent e he).1)
    have := hn'.out
    omega
  have hok' := hide hok
  have hrH := hide hr
  have hnA' := hide hnA
  have hoH := hide ho
  clear hok hr ho hbx hnA
  have hh := hide (show behG g r = ((joinE g.1 r.1, g.2.1, g.2.2), 0) by unfold behG; rw [hfi]; dsimp only; rw [if_pos hop])
  have hq1 : (r.2.2.1 == 1) = true := by simp [hop]
  have hcl : 1 ≤ r.1 ∧ r.1 ≤ 4 := hrH.out.1
  have hjl := hide (show (joinE g.1 r.1).length = n + 1 by
    have h1 : (g.1.takeWhile (fun e => decide (e.1 < r.1))).length + (g.1.dropWhile (fun e => decide (e.1 < r.1))).length = g.1.length := by rw [← List.length_append, List.takeWhile_append_dropWhile]
    have h2 : (joinE g.1 r.1).length = (g.1.takeWhile (fun e => decide (e.1 < r.1))).length + ((g.1.dropWhile (fun e => decide (e.1 < r.1))).length + 1) := by unfold joinE; rw [List.length_append, List.length_cons]
    have := hn'.out
    omega)
  clear hop
  go_enter Tryd.func44, Tryd.ntmps44
  go_wp2
  generalize w.alloc (.cells #[.int .i64 r.1, .int .i64 r.2.1, .int .i64 r.2.2.1, .int .i64 r.2.2.2.1, .int .i64 r.2.2.2.2] 37) = w1 at *
  refine wp_region_T (fun _ => True) [] [] [] [0, 1, 2, 3, 4, 5, 6] (by kernel_rfl) (by kernel_rfl) (by kernel_rfl) trivial ?_; simp only [pickL, List.getElem?_cons_succ, List.getElem?_cons_zero]
  go_wp2_with (first
    | (go_at_call 70; refine (figure_none _ n n (some ⟨gB, 0, none⟩) 16 16 (some ⟨gE, 0, none⟩) 4 4 lo w1.heap.size r.1 g.1 w1.drew (show RdN 5 (flatR encEnt) w1.drew lo w1.heap.size _ n n g.1 from Own.rdn (w := w1.drew) encEnt_len ho1.out.en.drew) (Nat.le_refl _) hfi).mono ?_; rintro e w2 ⟨rfl, hb2⟩; have hb12 : Below w1.heap.size w1 w2 := Below.appR (Below.drew (Below.refl _ _)) hb2; have hbx2 := hbx1.below hb12 hlx; have hbr2 := hbr1.below hb12 hlr; have ho2 := hide (ho1.out.below hb12); have hz2 := hb12.size; have hB2 : Below lo w w2 := (hA1.mono (by omega)).trans (hb12.mono (by omega)); clear xx0 xx1 xx2 xf0 xf1 xf2 rr0 rr1 rr2 rr3 rr4; obtain ⟨xx0, xx1, xx2, xf0, xf1, xf2⟩ := hbx2.cells; obtain ⟨rr0, rr1, rr2, rr3, rr4, -⟩ := hbr2.cells; have hlx2 := hbx2.lt; have hlr2 := hbr2.lt)
    | ((with_reducible refine wpT_noL ?_ ?_); (focus (first | exact wanted_no _ _ _ rfl rfl rfl | exact wanted_un _ _ _ rfl rfl rfl)); simp only [setO, List.set_cons_succ, List.set_cons_zero]) | ((with_reducible refine wpT_q0 ?_ ?_ ?_ ?_); (focus rfl); (focus rfl); (focus rfl); intro K hK) | ((with_reducible refine wpT_i ?_ ?_); (focus (refine ⟨_, _, _, _, _, _, _, _, rfl, rfl, rfl, rfl, rfl, ?_⟩; omega)); intro K hK) | ((with_reducible refine wpT_ncw ?_ ?_ ?_); (focus (first | exact .inl rfl | exact .inr (wanted_yes _ _ _ rfl rfl rfl))); (focus exact ⟨_, _, rfl, rfl, rfl⟩); intro K hK) | ((with_reducible refine wpT_x0 ?_ ?_ ?_); (focus rfl); (focus rfl); intro K hK) | ((with_reducible refine wpT_q1 ?_ ?_ ?_ ?_); (focus exact wanted_yes _ _ _ rfl rfl rfl); (focus rfl); (focus rfl); intro K hK) | ((with_reducible refine wpT_x1 ?_ ?_ ?_); (focus exact wanted_yes _ _ _ rfl rfl rfl); (focus rfl); intro K hK) | ((with_reducible refine wpT_nil ?_); try dsimp only)
    | fail)
  go_loopw [6] (fun i wr => ∃ k : Nat, k ≤ n ∧ i = .int .i64 (k : Int) ∧ Hid (∀ (j : Nat) (h : j < g.1.length), j < k → g.1[j].1 < r.1) ∧ Below w2.heap.size w2 wr) (fun i _ => n - (intOf i).toNat)
  case atStart => exact ⟨0, Nat.zero_le _, rfl, hide (fun j h h' => absurd h' (by omega)), by first | exact Below.refl _ _ | exact (Below.refl _ _).drew⟩
  case round =>
    obtain ⟨k, hk, rfl, hall, hbr0⟩ := hrel
    have hbd : Below w2.heap.size w2 wr.drew := hbr0.drew
    have hbxr := hbx2.below hbr0 hlx2
    have hbrr := hbr2.below hbr0 hlr2
    have hor := hide (ho2.out.below hbr0)
    have hzr := hbr0.size
    clear xx0 xx1 xx2 xf0 xf1 xf2 rr0 rr1 rr2 rr3 rr4
    obtain ⟨xx0, xx1, xx2, xf0, xf1, xf2⟩ := hbxr.cells
    obtain ⟨rr0, rr1, rr2, rr3, rr4, -⟩ := hbrr.cells
    have hlxr := hbxr.lt
    have hlrr := hbrr.lt
    by_cases hlt : k < n
    · have hkx : k < g.1.length := by have := hn'.out; omega
      obtain ⟨gA, hgA, hgA1, hgA2⟩ := hor.out.en.addrAt (show 0 < n by omega)
      obtain ⟨d0, d1, d2, d3, d4⟩ := (show Sl encEnt 5 wr lo wr.heap.size (some ⟨gA, 0, none⟩) g.1 from hgA ▸ (hor.out.en.slAt encEnt_len).2.2).getEnt hkx
      simp only [Nat.zero_add] at d0 d1 d2 d3 d4
      subst hgA
      cases e1 : decide (g.1[k].1 < r.1)
      · clear hor
        go_wp2
        refine wp_region_T (fun _ => True) [] [] [] [0, 1, 2, 3, 4, 5, 6, 7, 8, 9, 10, 11, 12, 13, 14, 15, 16, 17, 18, 19] (by kernel_rfl) (by kernel_rfl) (by kernel_rfl) trivial ?_; simp only [pickL, List.getElem?_cons_succ, List.getElem?_cons_zero]
        go_wp2_with (first
          | ((with_reducible refine wpT_noL ?_ ?_); (focus (first | exact wanted_no _ _ _ rfl rfl rfl | exact wanted_un _ _ _ rfl rfl rfl)); simp only [setO, List.set_cons_succ, List.set_cons_zero]) | ((with_reducible refine wpT_q0 ?_ ?_ ?_ ?_); (focus rfl); (focus rfl); (focus rfl); intro K hK) | ((with_reducible refine wpT_i ?_ ?_); (focus (refine ⟨_, _, _, _, _, _, _, _, rfl, rfl, rfl, rfl, rfl, ?_⟩; omega)); intro K hK) | ((with_reducible refine wpT_ncw ?_ ?_ ?_); (focus (first | exact .inl rfl | exact .inr (wanted_yes _ _ _ rfl rfl rfl))); (focus exact ⟨_, _, rfl, rfl, rfl⟩); intro K hK) | ((with_reducible refine wpT_x0 ?_ ?_ ?_); (focus rfl); (focus rfl); intro K hK) | ((with_reducible refine wpT_q1 ?_ ?_ ?_ ?_); (focus exact wanted_yes _ _ _ rfl rfl rfl); (focus rfl); (focus rfl); intro K hK) | ((with_reducible refine wpT_x1 ?_ ?_ ?_); (focus exact wanted_yes _ _ _ rfl rfl rfl); (focus rfl); intro K hK) | ((with_reducible refine wpT_nil ?_); try dsimp only)
          | fail)
        have hjn := hide (joinE_at (c := r.1) (Nat.le_of_lt hkx) hall.out (fun _ => by simpa using e1))
        go_wp2_with fail
        generalize wr.drew = wq at *
        have hbxq := hbx2.below hbd hlx2
        have hbrq := hbr2.below hbd hlr2
        have hoq := hide (ho2.out.below hbd)
        have hzq := hbd.size
        have hBq : Below lo w wq := hB2.trans (hbd.mono (by omega))
        clear xx0 xx1 xx2 xf0 xf1 xf2 rr0 rr1 rr2 rr3 rr4
        obtain ⟨xx0, xx1, xx2, xf0, xf1, xf2⟩ := hbxq.cells
        obtain ⟨rr0, rr1, rr2, rr3, rr4, -⟩ := hbrq.cells
        have hlxq := hbxq.lt
        have hlrq := hbrq.lt
        have how := hide (show Own encEnt 5 82 ((wq.alloc (.cells #[.int .i64 r.1, .int .i64 (r.1 - 1), .int .i64 (r.1 - 1), .int .i64 3, .int .i64 0] 82)).drew) lo (.slice (some ⟨gA, 0, none⟩) n n) g.1 from (hoq.out.en.alloc _).drew)
        have hA4 : Below wq.heap.size wq ((wq.alloc (.cells #[.int .i64 r.1, .int .i64 (r.1 - 1), .int .i64 (r.1 - 1), .int .i64 3, .int .i64 0] 82)).drew) := ((Below.refl wq.heap.size wq).alloc (Nat.le_refl _) _).drew
        have hv4 := hide (show Sl encEnt 5 ((wq.alloc (.cells #[.int .i64 r.1, .int .i64 (r.1 - 1), .int .i64 (r.1 - 1), .int .i64 3, .int .i64 0] 82)).drew) 0 ((wq.alloc (.cells #[.int .i64 r.1, .int .i64 (r.1 - 1), .int .i64 (r.1 - 1), .int .i64 3, .int .i64 0] 82)).drew).heap.size (some ⟨wq.heap.size, 0, none⟩) [(r.1, r.1 - 1, r.1 - 1, 3, 0)] from (sl_arr encEnt_len wq #[.int .i64 r.1, .int .i64 (r.1 - 1), .int .i64 (r.1 - 1), .int .i64 3, .int .i64 0] 82 [(r.1, r.1 - 1, r.1 - 1, 3, 0)] rfl |>.mono (Nat.zero_le _) (by simp only [World.size_drew, World.size_alloc]; omega)))
        have hz4 : ((wq.alloc (.cells #[.int .i64 r.1, .int .i64 (r.1 - 1), .int .i64 (r.1 - 1), .int .i64 3, .int .i64 0] 82)).drew).heap.size = wq.heap.size + 1 := by simp only [World.size_drew, World.size_alloc]
        have hz4h := hide hz4
        have hlo4 : lo ≤ ((wq.alloc (.cells #[.int .i64 r.1, .int .i64 (r.1 - 1), .int .i64 (r.1 - 1), .int .i64 3, .int .i64 0] 82)).drew).heap.size := by omega
        clear hz4
        have hst4 : Stays w.heap.size wq.heap[w.heap.size]? ((wq.alloc (.cells #[.int .i64 r.1, .int .i64 (r.1 - 1), .int .i64 (r.1 - 1), .int .i64 3, .int .i64 0] 82)).drew) := ⟨hA4.block _ hlrq⟩
        have hwb : ¬ w.heap.size = bx := by omega
        have hst : Stays w.heap.size wq.heap[w.heap.size]? wq := ⟨rfl⟩
        refine wp_region_O (Stays _ _) [35, 37] [46, 48, 58] [51, 53, 54, 56, 57] (Ord.seg [0, 1, 5, 6, 7, 8, 9, 10, 11, 12, 13] (Ord.both 2 14 (Ord.seg [3] (Ord.both 4 14 (Ord.seg [14, 15, 16, 17, 18, 19, 20] Ord.done) (Ord.seg [] (Ord.both 4 15 (Ord.seg [15, 16, 17, 18, 19, 20] Ord.done) (Ord.seg [4, 16, 17, 18, 19, 20] Ord.done))))) (Ord.seg [] (Ord.both 2 15 (Ord.seg [3] (Ord.both 4 15 (Ord.seg [15, 16, 17, 18, 19, 20] Ord.done) (Ord.seg [4, 16, 17, 18, 19, 20] Ord.done))) (Ord.seg [2, 3, 4, 16, 17, 18, 19, 20] Ord.done))))) (by kernel_rfl) (by kernel_rfl) (by kernel_rfl) (Stays.drew hst) ?_
        go_wp2_with (first
          | (go_at_call 68; refine (cloneEnt_c A5 (n + 1) c5 lo w5.heap.size (joinE g.1 r.1) w5 hl5.out (by omega) ho5'.out (Nat.le_refl _)).mono ?_; rintro e w6 ⟨A6, rfl, ho6, hb6⟩; have hbx6 := hbx5.below hb6 hlx5; have hst6 : Stays w.heap.size wq.heap[w.heap.size]? w6 := ⟨(hb6.block _ (by have := hz5; omega)).trans hst5.heap⟩; have hfl6 := hide (hfl5.out.below hb6 (Nat.le_refl _)); have hla6 := hide (hla5.out.below hb6 (Nat.le_refl _)); have hB6 : Below lo w w6 := hB5.trans (hb6.mono (by omega)); have hA6 := hide (fun q hq => (ho6.lt q hq).1); have ho6' := hide ho6; clear xx0 xx1 xx2 xf0 xf1 xf2 ho6; obtain ⟨xx0, xx1, xx2, xf0, xf1, xf2⟩ := hbx6.cells; have hlx6 := hbx6.lt)
          | (go_at_call 71; refine (Insert_c (some ⟨gA, 0, none⟩) n lo k g.1 (r.1, r.1 - 1, r.1 - 1, 3, 0) wq.heap.size ((wq.alloc (.cells #[.int .i64 r.1, .int .i64 (r.1 - 1), .int .i64 (r.1 - 1), .int .i64 3, .int .i64 0] 82)).drew) how.out hk hn4 hlo4 hv4.out).mono ?_; rintro e w5 ⟨v5, rfl, ho5, hO5⟩; (rw [← hjn.out] at ho5); obtain ⟨A5, n5, c5, rfl, hn5⟩ := ho5.shape; have hz5 := hO5.size; have hz4' := hz4h.out; have hbx5 : Bx3 w5 bx (.slice (some ⟨gA, 0, none⟩) n n) (.slice (some ⟨gB, 0, none⟩) 16 16) (.slice (some ⟨gE, 0, none⟩) 4 4) 35 := (hO5.row (by omega) (fun e => hnA'.out bx e rfl)).trans (hbxq.below hA4 hlxq); have hlx5 := hbx5.lt; have hst5 : Stays w.heap.size wq.heap[w.heap.size]? w5 := ⟨(hO5.row (by omega) (fun e => by have := (hoq.out.en.lt _ e).2; have h9 := (hoH.out.en.lt _ e).2; omega)).trans (hA4.block _ hlrq)⟩; have hgBl := (hoq.out.fl.lt gB rfl); have hgEl := (hoq.out.la.lt gE rfl); have hfl5 := hide (((hoq.out.fl.alloc _).drew).keep (w' := w5) (fun b hb => hO5.row (by simp [Value.ownBlock] at hb; omega) (fun e => hoq.out.ab b e hb))); have hla5 := hide (((hoq.out.la.alloc _).drew).keep (w' := w5) (fun b hb => hO5.row (by simp [Value.ownBlock] at hb; omega) (fun e => hoq.out.ae b e hb))); have hB5 : Below lo w w5 := (hBq.trans (hA4.mono (by omega))).trans (hO5.toBelow (by omega) (fun q hq => (hoq.out.en.lt q hq).1)); have hl5 := hide (show n + 1 = (joinE g.1 r.1).length by rw [hjl.out]); obtain rfl : n5 = n + 1 := (by have := hn5.out; have := hl5.out; omega); have ho5' := hide (ho5.slAt encEnt_len).2.2; have hlo5 : lo ≤ w5.heap.size := (by omega); have hbl5 : bx < w5.heap.size := hlx5)
          | ((with_reducible refine wpO_seg ?_); simp only [pickL, List.toList_toArray, List.getElem?_cons_succ, List.getElem?_cons_zero]) | ((with_reducible refine wpO_both ?_ ?_) <;> simp only [pickL, List.toList_toArray, List.getElem?_cons_succ, List.getElem?_cons_zero]) | ((with_reducible refine wpO_three ?_ ?_ ?_) <;> simp only [pickL, List.toList_toArray, List.getElem?_cons_succ, List.getElem?_cons_zero]) | ((with_reducible refine wpO_done ?_); try dsimp only) | ((with_reducible refine Stays.and_ ?_ ?_; (focus (repeat (first | (with_reducible assumption) | ((with_reducible refine Stays.cell ?_ ?_); rotate_left; (focus (first | (with_reducible assumption) | (simp; done) | (simp; omega)))) | (with_reducible refine Stays.drew ?_) | ((with_reducible refine Stays.alloc ?_ ?_ _); rotate_left; (focus (first | (with_reducible assumption) | omega)))))); intro hS)) | ((with_reducible refine wpT_noL ?_ ?_); (focus (first | exact wanted_no _ _ _ rfl rfl rfl | exact wanted_un _ _ _ rfl rfl rfl)); simp only [setO, List.set_cons_succ, List.set_cons_zero]) | ((with_reducible refine wpT_q0 ?_ ?_ ?_ ?_); (focus rfl); (focus rfl); (focus rfl); intro K hK) | ((with_reducible refine wpT_b ?_ ?_); (focus (exact ⟨_, _, _, _, _, _, _, _, _, rfl, rfl, rfl, rfl, rfl, rfl⟩)); intro K hK) | ((with_reducible refine wpT_ncw ?_ ?_ ?_); (focus (first | exact .inl rfl | exact .inr (wanted_yes _ _ _ rfl rfl rfl))); (focus exact ⟨_, _, rfl, rfl, rfl⟩); intro K hK) | ((with_reducible apply wpT_k); (focus rfl); (focus rfl); (focus rfl); (focus rfl); (focus (first | assumption | exact Stays.drew (by assumption))); (focus rfl); (focus go_simp); intro K hK) | ((with_reducible refine wpT_xs0 ?_ ?_ ?_); (focus rfl); (focus rfl); intro K hK) | ((with_reducible refine wpT_q1 ?_ ?_ ?_ ?_); (focus exact wanted_yes _ _ _ rfl rfl rfl); (focus rfl); (focus rfl); intro K hK) | ((with_reducible refine wpT_xs1 ?_ ?_ ?_); (focus exact wanted_yes _ _ _ rfl rfl rfl); (focus rfl); intro K hK) | ((with_reducible refine wpT_nil ?_); try dsimp only)
          | fail)
        all_goals
          go_ret
          rw [hh.out]
          have hP : ActPost bx lo gB gE w ((joinE g.1 r.1, g.2.1, g.2.2), 0) (.returned (.int .i64 0)) (w6.setCell ⟨bx, 0, none⟩ (.slice A6 (n + 1) (n + 1))) :=
            ⟨A6, n + 1, rfl, hbx6.set0 _, ⟨(ho6'.out.mono (by omega)).keep (fun b hb => ne_set _ (by have := hA6.out b hb; omega)), hfl6.out.keep (fun b hb => ne_set _ (by simp [Value.ownBlock] at hb; omega)), hla6.out.keep (fun b hb => ne_set _ (by simp [Value.ownBlock] at hb; omega)),
              fun b hb h2 => by have := hA6.out b hb; simp [Value.ownBlock] at h2; omega, fun b hb h2 => by have := hA6.out b hb; simp [Value.ownBlock] at h2; omega, fun b hb h2 => ho2.out.be b hb h2⟩, fun b hb => by have := hA6.out b hb; omega, hB6.setCell (p := ⟨bx, 0, none⟩) hlo _⟩
          (repeat (first | exact hP | refine ActPost.dr ?_))
      · have hyes := hide (show g.1[k].1 < r.1 by simpa using e1)
        go_wp2
        refine wp_region_T (fun _ => True) [] [] [] [0, 1, 2, 3, 4, 5, 6, 7, 8, 9, 10, 11, 12, 13, 14, 15, 16, 17, 18, 19] (by kernel_rfl) (by kernel_rfl) (by kernel_rfl) trivial ?_; simp only [pickL, List.getElem?_cons_succ, List.getElem?_cons_zero]
        go_wp2_with (first
          | ((with_reducible refine wpT_noL ?_ ?_); (focus (first | exact wanted_no _ _ _ rfl rfl rfl | exact wanted_un _ _ _ rfl rfl rfl)); simp only [setO, List.set_cons_succ, List.set_cons_zero]) | ((with_reducible refine wpT_q0 ?_ ?_ ?_ ?_); (focus rfl); (focus rfl); (focus rfl); intro K hK) | ((with_reducible refine wpT_i ?_ ?_); (focus (refine ⟨_, _, _, _, _, _, _, _, rfl, rfl, rfl, rfl, rfl, ?_⟩; omega)); intro K hK) | ((with_reducible refine wpT_ncw ?_ ?_ ?_); (focus (first | exact .inl rfl | exact .inr (wanted_yes _ _ _ rfl rfl rfl))); (focus exact ⟨_, _, rfl, rfl, rfl⟩); intro K hK) | ((with_reducible refine wpT_x0 ?_ ?_ ?_); (focus rfl); (focus rfl); intro K hK) | ((with_reducible refine wpT_q1 ?_ ?_ ?_ ?_); (focus exact wanted_yes _ _ _ rfl rfl rfl); (focus rfl); (focus rfl); intro K hK) | ((with_reducible refine wpT_x1 ?_ ?_ ?_); (focus exact wanted_yes _ _ _ rfl rfl rfl); (focus rfl); intro K hK) | ((with_reducible refine wpT_nil ?_); try dsimp only)
          | fail)
        go_roundw
        case rel => exact ⟨k + 1, by omega, by go_num, hide (fun j hj hjk => by
          by_cases h : j < k
          · exact hall.out j hj h
          · obtain rfl : j = k := by omega
            exact hyes.out), by first | exact hbr0 | exact hbr0.drew | exact hbr0.drew.drew⟩
        case measure => simp [intOf]; omega
    · clear hor
      go_wp2
      refine wp_region_T (fun _ => True) [] [] [] [0, 1, 2, 3, 4, 5, 6, 7, 8, 9, 10, 11, 12, 13, 14, 15, 16, 17, 18, 19] (by kernel_rfl) (by kernel_rfl) (by kernel_rfl) trivial ?_; simp only [pickL, List.getElem?_cons_succ, List.getElem?_cons_zero]
      go_wp2_with (first
        | ((with_reducible refine wpT_noL ?_ ?_); (focus (first | exact wanted_no _ _ _ rfl rfl rfl | exact wanted_un _ _ _ rfl rfl rfl)); simp only [setO, List.set_cons_succ, List.set_cons_zero]) | ((with_reducible refine wpT_q0 ?_ ?_ ?_ ?_); (focus rfl); (focus rfl); (focus rfl); intro K hK) | ((with_reducible refine wpT_i ?_ ?_); (focus (refine ⟨_, _, _, _, _, _, _, _, rfl, rfl, rfl, rfl, rfl, ?_⟩; omega)); intro K hK) | ((with_reducible refine wpT_ncw ?_ ?_ ?_); (focus (first | exact .inl rfl | exact .inr (wanted_yes _ _ _ rfl rfl rfl))); (focus exact ⟨_, _, rfl, rfl, rfl⟩); intro K hK) | ((with_reducible refine wpT_x0 ?_ ?_ ?_); (focus rfl); (focus rfl); intro K hK) | ((with_reducible refine wpT_q1 ?_ ?_ ?_ ?_); (focus exact wanted_yes _ _ _ rfl rfl rfl); (focus rfl); (focus rfl); intro K hK) | ((with_reducible refine wpT_x1 ?_ ?_ ?_); (focus exact wanted_yes _ _ _ rfl rfl rfl); (focus rfl); intro K hK) | ((with_reducible refine wpT_nil ?_); try dsimp only)
        | fail)
      have hjn := hide (joinE_at (c := r.1) (by have := hn'.out; omega) hall.out (fun h => absurd h (by have := hn'.out; omega)))
      go_wp2_with fail
      generalize wr.drew = wq at *
      have hbxq := hbx2.below hbd hlx2
      have hbrq := hbr2.below hbd hlr2
      have hoq := hide (ho2.out.below hbd)
      have hzq := hbd.size
      have hBq : Below lo w wq := hB2.trans (hbd.mono (by omega))
      clear xx0 xx1 xx2 xf0 xf1 xf2 rr0 rr1 rr2 rr3 rr4
      obtain ⟨xx0, xx1, xx2, xf0, xf1, xf2⟩ := hbxq.cells
      obtain ⟨rr0, rr1, rr2, rr3, rr4, -⟩ := hbrq.cells
      have hlxq := hbxq.lt
      have hlrq := hbrq.lt
      have how := hide (show Own encEnt 5 82 ((wq.alloc (.cells #[.int .i64 r.1, .int .i64 (r.1 - 1), .int .i64 (r.1 - 1), .int .i64 3, .int .i64 0] 82)).drew) lo (.slice A n n) g.1 from (hoq.out.en.alloc _).drew)
      have hA4 : Below wq.heap.size wq ((wq.alloc (.cells #[.int .i64 r.1, .int .i64 (r.1 - 1), .int .i64 (r.1 - 1), .int .i64 3, .int .i64 0] 82)).drew) := ((Below.refl wq.heap.size wq).alloc (Nat.le_refl _) _).drew
      have hv4 := hide (show Sl encEnt 5 ((wq.alloc (.cells #[.int .i64 r.1, .int .i64 (r.1 - 1), .int .i64 (r.1 - 1), .int .i64 3, .int .i64 0] 82)).drew) 0 ((wq.alloc (.cells #[.int .i64 r.1, .int .i64 (r.1 - 1), .int .i64 (r.1 - 1), .int .i64 3, .int .i64 0] 82)).drew).heap.size (some ⟨wq.heap.size, 0, none⟩) [(r.1, r.1 - 1, r.1 - 1, 3, 0)] from (sl_arr encEnt_len wq #[.int .i64 r.1, .int .i64 (r.1 - 1), .int .i64 (r.1 - 1), .int .i64 3, .int .i64 0] 82 [(r.1, r.1 - 1, r.1 - 1, 3, 0)] rfl |>.mono (Nat.zero_le _) (by simp only [World.size_drew, World.size_alloc]; omega)))
      have hz4 : ((wq.alloc (.cells #[.int .i64 r.1, .int .i64 (r.1 - 1), .int .i64 (r.1 - 1), .int .i64 3, .int .i64 0] 82)).drew).heap.size = wq.heap.size + 1 := by simp only [World.size_drew, World.size_alloc]
      have hz4h := hide hz4
      have hlo4 : lo ≤ ((wq.alloc (.cells #[.int .i64 r.1, .int .i64 (r.1 - 1), .int .i64 (r.1 - 1), .int .i64 3, .int .i64 0] 82)).drew).heap.size := by omega
      clear hz4
      have hst4 : Stays w.heap.size wq.heap[w.heap.size]? ((wq.alloc (.cells #[.int .i64 r.1, .int .i64 (r.1 - 1), .int .i64 (r.1 - 1), .int .i64 3, .int .i64 0] 82)).drew) := ⟨hA4.block _ hlrq⟩
      have hwb : ¬ w.heap.size = bx := by omega
      have hst : Stays w.heap.size wq.heap[w.heap.size]? wq := ⟨rfl⟩
      refine wp_region_O (Stays _ _) [35, 37] [46, 48, 58] [51, 53, 54, 56, 57] (Ord.seg [0, 1, 5, 6, 7, 8, 9, 10, 11, 12, 13] (Ord.both 2 14 (Ord.seg [3] (Ord.both 4 14 (Ord.seg [14, 15, 16, 17, 18, 19, 20] Ord.done) (Ord.seg [] (Ord.both 4 15 (Ord.seg [15, 16, 17, 18, 19, 20] Ord.done) (Ord.seg [4, 16, 17, 18, 19, 20] Ord.done))))) (Ord.seg [] (Ord.both 2 15 (Ord.seg [3] (Ord.both 4 15 (Ord.seg [15, 16, 17, 18, 19, 20] Ord.done) (Ord.seg [4, 16, 17, 18, 19, 20] Ord.done))) (Ord.seg [2, 3, 4, 16, 17, 18, 19, 20] Ord.done))))) (by kernel_rfl) (by kernel_rfl) (by kernel_rfl) (Stays.drew hst) ?_
      go_wp2_with (first
        | (go_at_call 68; refine (cloneEnt_c A5 (n + 1) c5 lo w5.heap.size (joinE g.1 r.1) w5 hl5.out (by omega) ho5'.out (Nat.le_refl _)).mono ?_; rintro e w6 ⟨A6, rfl, ho6, hb6⟩; have hbx6 := hbx5.below hb6 hlx5; have hst6 : Stays w.heap.size wq.heap[w.heap.size]? w6 := ⟨(hb6.block _ (by have := hz5; omega)).trans hst5.heap⟩; have hfl6 := hide (hfl5.out.below hb6 (Nat.le_refl _)); have hla6 := hide (hla5.out.below hb6 (Nat.le_refl _)); have hB6 : Below lo w w6 := hB5.trans (hb6.mono (by omega)); have hA6 := hide (fun q hq => (ho6.lt q hq).1); have ho6' := hide ho6; clear xx0 xx1 xx2 xf0 xf1 xf2 ho6; obtain ⟨xx0, xx1, xx2, xf0, xf1, xf2⟩ := hbx6.cells; have hlx6 := hbx6.lt)
        | (go_at_call 71; refine (Insert_c A n lo k g.1 (r.1, r.1 - 1, r.1 - 1, 3, 0) wq.heap.size ((wq.alloc (.cells #[.int .i64 r.1, .int .i64 (r.1 - 1), .int .i64 (r.1 - 1), .int .i64 3, .int .i64 0] 82)).drew) how.out hk hn4 hlo4 hv4.out).mono ?_; rintro e w5 ⟨v5, rfl, ho5, hO5⟩; (rw [← hjn.out] at ho5); obtain ⟨A5, n5, c5, rfl, hn5⟩ := ho5.shape; have hz5 := hO5.size; have hz4' := hz4h.out; have hbx5 : Bx3 w5 bx (.slice A n n) (.slice (some ⟨gB, 0, none⟩) 16 16) (.slice (some ⟨gE, 0, none⟩) 4 4) 35 := (hO5.row (by omega) (fun e => hnA'.out bx e rfl)).trans (hbxq.below hA4 hlxq); have hlx5 := hbx5.lt; have hst5 : Stays w.heap.size wq.heap[w.heap.size]? w5 := ⟨(hO5.row (by omega) (fun e => by have := (hoq.out.en.lt _ e).2; have h9 := (hoH.out.en.lt _ e).2; omega)).trans (hA4.block _ hlrq)⟩; have hgBl := (hoq.out.fl.lt gB rfl); have hgEl := (hoq.out.la.lt gE rfl); have hfl5 := hide (((hoq.out.fl.alloc _).drew).keep (w' := w5) (fun b hb => hO5.row (by simp [Value.ownBlock] at hb; omega) (fun e => hoq.out.ab b e hb))); have hla5 := hide (((hoq.out.la.alloc _).drew).keep (w' := w5) (fun b hb => hO5.row (by simp [Value.ownBlock] at hb; omega) (fun e => hoq.out.ae b e hb))); have hB5 : Below lo w w5 := (hBq.trans (hA4.mono (by omega))).trans (hO5.toBelow (by omega) (fun q hq => (hoq.out.en.lt q hq).1)); have hl5 := hide (show n + 1 = (joinE g.1 r.1).length by rw [hjl.out]); obtain rfl : n5 = n + 1 := (by have := hn5.out; have := hl5.out; omega); have ho5' := hide (ho5.slAt encEnt_len).2.2; have hlo5 : lo ≤ w5.heap.size := (by omega); have hbl5 : bx < w5.heap.size := hlx5)
        | ((with_reducible refine wpO_seg ?_); simp only [pickL, List.toList_toArray, List.getElem?_cons_succ, List.getElem?_cons_zero]) | ((with_reducible refine wpO_both ?_ ?_) <;> simp only [pickL, List.toList_toArray, List.getElem?_cons_succ, List.getElem?_cons_zero]) | ((with_reducible refine wpO_three ?_ ?_ ?_) <;> simp only [pickL, List.toList_toArray, List.getElem?_cons_succ, List.getElem?_cons_zero]) | ((with_reducible refine wpO_done ?_); try dsimp only) | ((with_reducible refine Stays.and_ ?_ ?_; (focus (repeat (first | (with_reducible assumption) | ((with_reducible refine Stays.cell ?_ ?_); rotate_left; (focus (first | (with_reducible assumption) | (simp; done) | (simp; omega)))) | (with_reducible refine Stays.drew ?_) | ((with_reducible refine Stays.alloc ?_ ?_ _); rotate_left; (focus (first | (with_reducible assumption) | omega)))))); intro hS)) | ((with_reducible refine wpT_noL ?_ ?_); (focus (first | exact wanted_no _ _ _ rfl rfl rfl | exact wanted_un _ _ _ rfl rfl rfl)); simp only [setO, List.set_cons_succ, List.set_cons_zero]) | ((with_reducible refine wpT_q0 ?_ ?_ ?_ ?_); (focus rfl); (focus rfl); (focus rfl); intro K hK) | ((with_reducible refine wpT_b ?_ ?_); (focus (exact ⟨_, _, _, _, _, _, _, _, _, rfl, rfl, rfl, rfl, rfl, rfl⟩)); intro K hK) | ((with_reducible refine wpT_ncw ?_ ?_ ?_); (focus (first | exact .inl rfl | exact .inr (wanted_yes _ _ _ rfl rfl rfl))); (focus exact ⟨_, _, rfl, rfl, rfl⟩); intro K hK) | ((with_reducible apply wpT_k); (focus rfl); (focus rfl); (focus rfl); (focus rfl); (focus (first | assumption | exact Stays.drew (by assumption))); (focus rfl); (focus go_simp); intro K hK) | ((with_reducible refine wpT_xs0 ?_ ?_ ?_); (focus rfl); (focus rfl); intro K hK) | ((with_reducible refine wpT_q1 ?_ ?_ ?_ ?_); (focus exact wanted_yes _ _ _ rfl rfl rfl); (focus rfl); (focus rfl); intro K hK) | ((with_reducible refine wpT_xs1 ?_ ?_ ?_); (focus exact wanted_yes _ _ _ rfl rfl rfl); (focus rfl); intro K hK) | ((with_reducible refine wpT_nil ?_); try dsimp only)
        | fail)
      all_goals
        go_ret
        rw [hh.out]
        have hP : ActPost bx lo gB gE w ((joinE g.1 r.1, g.2.1, g.2.2), 0) (.returned (.int .i64 0)) (w6.setCell ⟨bx, 0, none⟩ (.slice A6 (n + 1) (n + 1))) :=
          ⟨A6, n + 1, rfl, hbx6.set0 _, ⟨(ho6'.out.mono (by omega)).keep (fun b hb => ne_set _ (by have := hA6.out b hb; omega)), hfl6.out.keep (fun b hb => ne_set _ (by simp [Value.ownBlock] at hb; omega)), hla6.out.keep (fun b hb => ne_set _ (by simp [Value.ownBlock] at hb; omega)),
            fun b hb h2 => by have := hA6.out b hb; simp [Value.ownBlock] at h2; omega, fun b hb h2 => by have := hA6.out b hb; simp [Value.ownBlock] at h2; omega, fun b hb h2 => ho2.out.be b hb h2⟩, fun b hb => by have := hA6.out b hb; omega, hB6.setCell (p := ⟨bx, 0, none⟩) hlo _⟩
        (repeat (first | exact hP | refine ActPost.dr ?_))
end Go.Proofs.YtajmfonepnkofaaDoor
