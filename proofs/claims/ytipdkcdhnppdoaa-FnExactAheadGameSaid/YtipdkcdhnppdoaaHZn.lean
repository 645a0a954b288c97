/-
  'FnExactAheadSure', 'FnExactAheadGame' return true, for every argument. (Printed by gen_hzn.py.)
  Conditions: none.
-/
import Derived.Test.YtipdkcdhnppdoaaHZk
import Derived.Test.YtipdkcdhnppdoaaHZm
namespace Go.Proofs.Ytipdkcdhnppdoaa
open Go.RowKit Rg
set_option linter.unusedVariables false
set_option linter.unusedSimpArgs false

theorem sureRes_len (ds ws : List ReqT) (k : Int) : (sureRes ds ws k).1.length ≤ 1000 ∧ (sureRes ds ws k).2.1.length ≤ 1000 ∧ (sureRes ds ws k).2.2.length ≤ 1000 := by
  unfold sureRes
  split
  · rename_i h
    exact okGD_len (okG.folding newG_ok (fun r hr => ahOk_all h r (List.mem_append_left _ hr)))
  · simp [emptyG]
set_option maxRecDepth 100000 in
set_option maxHeartbeats 8000000 in
theorem lawFnExactAheadSure (A : Option Addr) (n c : Nat) (B : Option Addr) (m d : Nat) (k : Int) (ds ws : List ReqT) (w : World) (hnd : n = ds.length) (hmd : m = ws.length) (hsd : Sl encReq 5 w 0 w.heap.size A ds) (hsw : Sl encReq 5 w 0 w.heap.size B ws) (hmn : n ≤ maxLen) (hmm : m ≤ maxLen) :
    Calls Try.prog 5 #[.agg #[.slice A n c, .slice B m d, .int .i64 k]] w fun e w' => e = .returned (.bool true) ∧ Below w.heap.size w w' := by
  have hA0 := (Below.refl w.heap.size w).alloc (Nat.le_refl _) (.cells #[.slice A n c, .slice B m d, .int .i64 k] 37)
  have hx0 := Bx3.made w (.slice A n c) (.slice B m d) (.int .i64 k) 37
  have hz0 : w.heap.size + 1 ≤ (w.alloc (.cells #[.slice A n c, .slice B m d, .int .i64 k] 37)).heap.size := by simp only [World.size_alloc]; omega
  have hnl := hide hnd
  have hml := hide hmd
  have hsd' := hide hsd
  have hsw' := hide hsw
  clear hnd hmd hsd hsw
  have hl := hide (sureRes_len ds ws k)
  by_cases hz : n + m ≤ 1048576
  · have d1 : decide ((1048576 : Int) - (n : Int) - (m : Int) < 0) = false := decide_eq_false (by omega)
    have kt := hide (fun W (h : Below w.heap.size w W) => toAhead_c A n c B m d k w.heap.size ds ws W hnl.out hml.out (by omega) (by omega) (hsd'.out.below h (Nat.le_refl _)) (hsw'.out.below h (Nat.le_refl _)) h.size)
    have hdl : ds.length ≤ 1048576 := by have := hnl.out; omega
    have hwl : ws.length ≤ 1048576 := by have := hml.out; omega
    go_enter Try.func5, Try.ntmps5
    go_wp2_with fail
    generalize w.alloc (.cells #[.slice A n c, .slice B m d, .int .i64 k] 37) = w1 at *
    refine (szAhead_c A n c B m d k w1 hmn hmm).mono ?_
    rintro e u0 ⟨rfl, hb0⟩
    rw [if_pos hz]
    have hB0 := hA0.trans (hb0.mono hA0.size)
    have hz0' := hb0.size
    have hx0 := hx0.below hb0 hx0.lt
    have hxl0 := hx0.lt
    obtain ⟨aa0, aa1, aa2, -, -, -⟩ := hx0.cells
    go_wp2_with fail
    refine (kt.out _ hB0).mono ?_
    rintro e u1 ⟨A1, c1, B1, d1', K1, rfl, hK1, oa1, -, ob1, hb1⟩
    have hB1 := hB0.trans (hb1.mono hB0.size)
    have hz1 := hb1.size
    have hx1 := hx0.below hb1 hxl0
    go_wp2_with fail
    refine (AheadSureS_c A1 ds.length c1 B1 ws.length d1' k u0.heap.size u1.heap.size ds ws u1 (oa1.rdn encReq_len) ((ob1.mono hK1).rdn encReq_len) hdl hwl (Nat.le_refl _)).mono ?_
    rintro e u2 ⟨Aw, nw, cw, Bw, pw, dw, Ew, qw, fw, rfl, gw, hb2⟩
    have hB2 := hB1.trans (hb2.mono hB1.size)
    have hz2 := hb2.size
    have hA3 := (Below.refl u2.heap.size u2).alloc (Nat.le_refl _) (.cells #[.slice Aw nw cw, .slice Bw pw dw, .slice Ew qw fw] 27)
    have hy3 := Bx3.made u2 (.slice Aw nw cw) (.slice Bw pw dw) (.slice Ew qw fw) 27
    have gw3 := hide (gw.below hA3 (fun b hb => by rcases hb with hb | hb; exact hb.elim; exact hb.2))
    have hB3 := hB2.trans (hA3.mono hB2.size)
    have hz3 : u2.heap.size + 1 ≤ (u2.alloc (.cells #[.slice Aw nw cw, .slice Bw pw dw, .slice Ew qw fw] 27)).heap.size := by simp only [World.size_alloc]; omega
    have hx3 := (hx1.below hb2 (by omega)).below hA3 (by omega)
    clear gw oa1 ob1
    clear aa0 aa1 aa2
    obtain ⟨aa0, aa1, aa2, -, -, -⟩ := hx3.cells
    go_wp2_with fail
    generalize u2.alloc (.cells #[.slice Aw nw cw, .slice Bw pw dw, .slice Ew qw fw] 27) = u3 at *
    refine (kt.out _ hB3).mono ?_
    rintro e u4 ⟨A4, c4, B4, d4, K4, rfl, hK4, oa4, hlA4, ob4, hb4⟩
    have hB4 := hB3.trans (hb4.mono hB3.size)
    have hz4 := hb4.size
    have hA5 := (Below.refl u4.heap.size u4).alloc (Nat.le_refl _) (.cells #[.slice A4 ds.length c4, .slice B4 ws.length d4, .int .i64 k] 41)
    have hq5 := Bx3.made u4 (.slice A4 ds.length c4) (.slice B4 ws.length d4) (.int .i64 k) 41
    have hz5 : u4.heap.size + 1 ≤ (u4.alloc (.cells #[.slice A4 ds.length c4, .slice B4 ws.length d4, .int .i64 k] 41)).heap.size := by simp only [World.size_alloc]; omega
    have hB5 := hB4.trans (hA5.mono hB4.size)
    have h35 := hb4.trans (hA5.mono hz4)
    have hx5 := hx3.below h35 (by omega)
    have hy5 := hy3.below h35 hy3.lt
    have gw5 := hide (gw3.out.below h35 (fun b hb => by rcases hb with hb | hb; exact hb.elim; have := hb.2; omega))
    have hltA : Hid (∀ b, (Value.slice A4 ds.length c4).ownBlock = some b → u3.heap.size ≤ b ∧ b < u4.heap.size ∧ b < K4) := hide (fun b hb => ⟨(oa4.lt b hb).1, (oa4.lt b hb).2, hlA4 b hb⟩)
    have hltB : Hid (∀ b, (Value.slice B4 ws.length d4).ownBlock = some b → u3.heap.size ≤ b ∧ b < u4.heap.size) := hide (fun b hb => ⟨Nat.le_trans hK4 (ob4.lt b hb).1, (ob4.lt b hb).2⟩)
    have oa5 := hide (oa4.below hA5 (Nat.le_refl _))
    have ob5 := hide (ob4.below hA5 (Nat.le_refl _))
    clear gw3 oa4 ob4 hlA4 aa0 aa1 aa2
    obtain ⟨qq0, qq1, qq2, -, -, -⟩ := hq5.cells
    go_wp2_with fail
    generalize u4.alloc (.cells #[.slice A4 ds.length c4, .slice B4 ws.length d4, .int .i64 k] 41) = u5 at *
    refine (AheadSureO_c A4 ds.length c4 B4 ws.length d4 k u3.heap.size u5.heap.size ds ws u5 (oa5.out.rdn encReq_len) ((ob5.out.mono hK4).rdn encReq_len) hdl hwl (Nat.le_refl _)).mono ?_
    rintro e u6 ⟨Ag, ng, Bg, pg, Eg, qg, rfl, og, hb6⟩
    have hB6 := hB5.trans (hb6.mono hB5.size)
    have hz6 := hb6.size
    have hA7 := (Below.refl u6.heap.size u6).alloc (Nat.le_refl _) (.cells #[.slice Ag ng ng, .slice Bg pg pg, .slice Eg qg qg] 27)
    have hg7 := Bx3.made u6 (.slice Ag ng ng) (.slice Bg pg pg) (.slice Eg qg qg) 27
    have hz7 : u6.heap.size + 1 ≤ (u6.alloc (.cells #[.slice Ag ng ng, .slice Bg pg pg, .slice Eg qg qg] 27)).heap.size := by simp only [World.size_alloc]; omega
    have og7 := hide (og.below hA7)
    have hog : Hid (∀ k, ((Value.slice Ag ng ng).ownBlock = some k ∨ (Value.slice Bg pg pg).ownBlock = some k ∨ (Value.slice Eg qg qg).ownBlock = some k) → u5.heap.size ≤ k ∧ k < u6.heap.size) := hide (fun k hk => by
      rcases hk with h | h | h
      · exact og.en.lt k h
      · exact og.fl.lt k h
      · exact og.la.lt k h)
    have h57 := hb6.trans (hA7.mono hz6)
    have hB7 := hB6.trans (hA7.mono hB6.size)
    have hx7 := hx5.below h57 (by omega)
    have hy7 := hy5.below h57 (by omega)
    have hq7 := hq5.below h57 (by omega)
    have gw7 := hide (gw5.out.below h57 (fun b hb => by rcases hb with hb | hb; exact hb.elim; have := hb.2; omega))
    have oa7 := hide (oa5.out.below h57 (Nat.le_refl _))
    have ob7 := hide (ob5.out.below h57 (Nat.le_refl _))
    clear og gw5 oa5 ob5 qq0 qq1 qq2
    obtain ⟨gg0, gg1, gg2, -, -, -⟩ := hg7.cells
    obtain ⟨yy0, yy1, yy2, -, -, -⟩ := hy7.cells
    go_wp2_with fail
    generalize u6.alloc (.cells #[.slice Ag ng ng, .slice Bg pg pg, .slice Eg qg qg] 27) = u7 at *
    refine (eqGame_c Ag ng ng Bg pg pg Eg qg qg Aw nw cw Bw pw dw Ew qw fw _ _ (sureRes ds ws k) u7 og7.out.gmD (fun b hb => hb.2) gw7.out (fun b hb => by rcases hb with hb | hb; exact hb.elim; have := hb.2; omega) hl.out).mono ?_
    rintro e u8 ⟨rfl, hb8⟩
    have hB8 := hB7.trans (hb8.mono hB7.size)
    have hz8 := hb8.size
    have hx8 := hx7.below hb8 (by omega)
    have hy8 := hy7.below hb8 (by omega)
    have hq8 := hq7.below hb8 (by omega)
    have hg8 := hg7.below hb8 hg7.lt
    have gw8 := hide (gw7.out.below hb8 (fun b hb => by rcases hb with hb | hb; exact hb.elim; have := hb.2; omega))
    have oa8 := hide (oa7.out.below hb8 (Nat.le_refl _))
    have ob8 := hide (ob7.out.below hb8 (Nat.le_refl _))
    have og8 := hide (og7.out.below hb8)
    clear gg0 gg1 gg2 yy0 yy1 yy2 gw7 oa7 ob7 og7
    obtain ⟨aa0, aa1, aa2, -, -, -⟩ := hx8.cells
    obtain ⟨qq0, qq1, qq2, -, -, -⟩ := hq8.cells
    have hlx8 := hx8.lt
    have hlq8 := hq8.lt
    go_wp2
    refine wp_region_T (SinceB (u8.heap.size) _) [] [] [27] [0, 1, 2, 3, 4] (by kernel_rfl) (by kernel_rfl) (by kernel_rfl) (SinceB.drew _ _) ?_; simp only [pickL, List.getElem?_cons_succ, List.getElem?_cons_zero]
    go_wp2_with (first
      | (go_at_call 19; refine (eqAhead_c A4 ds.length c4 B4 ws.length d4 A9 ds.length c9 B9 ws.length d9 k 0 u9.heap.size ds ws u9 rfl rfl rfl rfl hdl hwl oa49.out ob49.out oa9.out ob9.out (Nat.le_refl _)).mono ?_; rintro e u10 ⟨rfl, hb10⟩; have h810 : Below u8.heap.size u8 u10 := Below.appR hb89 hb10; have hz10 := h810.size; have hS10 : SinceB (u8.heap.size) u8 u10 := (SinceB.refl _ _).below h810 (by omega); have hq10 := hq8.below h810 hq8.lt; clear qq0 qq1 qq2 aa0 aa1 aa2; obtain ⟨qq0, qq1, qq2, -, -, -⟩ := hq10.cells; have hK := hK)
      | (go_at_call 17; refine (kt.out _ hB8.drew).mono ?_; rintro e u9 ⟨A9, c9, B9, d9, K9, rfl, hK9, oa9', -, ob9', hb9⟩; have hb89 : Below u8.heap.size u8 u9 := Below.appR (Below.drew (Below.refl _ _)) hb9; have hz9 := hb89.size; have hS9 : SinceB (u8.heap.size) u8 u9 := (SinceB.refl _ _).below hb89 (by omega); have oa9 := hide ((oa9'.slAt encReq_len).2.2.mono (Nat.zero_le _) (Nat.le_refl _)); have ob9 := hide ((ob9'.slAt encReq_len).2.2.mono (Nat.zero_le _) (Nat.le_refl _)); have oa49 := hide (((oa8.out.below hb89 (Nat.le_refl _)).slAt encReq_len).2.2.mono (Nat.zero_le _) (Nat.le_refl _)); have ob49 := hide (((ob8.out.below hb89 (Nat.le_refl _)).slAt encReq_len).2.2.mono (Nat.zero_le _) (Nat.le_refl _)); clear oa9' ob9'; have hK := hK)
      | (with_reducible refine SinceB.and_ ?_ ?_; (focus (repeat (first | (with_reducible exact SinceB.refl _ _) | (with_reducible assumption) | (with_reducible refine SinceB.drewR ?_) | ((with_reducible refine SinceB.alloc ?_ ?_ _); rotate_left; (focus (first | (with_reducible assumption) | (simp; done) | (simp; omega) | omega))) | ((with_reducible refine SinceB.set ?_ ?_ _); rotate_left; (focus (first | omega | (simp; done) | (simp; omega))))))); intro hS) | ((with_reducible refine wpT_noL ?_ ?_); (focus (first | exact wanted_no _ _ _ rfl rfl rfl | exact wanted_un _ _ _ rfl rfl rfl)); simp only [setO, List.set_cons_succ, List.set_cons_zero]) | ((with_reducible refine wpT_q0 ?_ ?_ ?_ ?_); (focus rfl); (focus rfl); (focus rfl); intro K hK) | ((with_reducible refine wpT_i ?_ ?_); (focus (refine ⟨_, _, _, _, _, _, _, _, rfl, rfl, rfl, rfl, rfl, ?_⟩; omega)); intro K hK) | ((with_reducible apply wpT_lB); (focus rfl); (focus rfl); (focus rfl); (focus rfl); (focus (first | exact SinceB.drew _ _ | (with_reducible assumption))); (focus (simp <;> omega)); (focus go_simp); intro K hK) | ((with_reducible apply wpT_lwB); (focus exact wanted_yes _ _ _ rfl rfl rfl); (focus rfl); (focus rfl); (focus rfl); (focus (first | exact SinceB.drew _ _ | (with_reducible assumption))); (focus (simp <;> omega)); (focus go_simp); intro K hK) | ((with_reducible refine wpT_xs0 ?_ ?_ ?_); (focus rfl); (focus rfl); intro K hK) | ((with_reducible refine wpT_q1 ?_ ?_ ?_ ?_); (focus exact wanted_yes _ _ _ rfl rfl rfl); (focus rfl); (focus rfl); intro K hK) | ((with_reducible refine wpT_xs1 ?_ ?_ ?_); (focus exact wanted_yes _ _ _ rfl rfl rfl); (focus rfl); intro K hK) | ((with_reducible refine wpT_nil ?_); try dsimp only)
      | fail)
    have hB10 := hB8.trans (h810.mono (by omega))
    have oa10 := hide (oa8.out.below h810 (Nat.le_refl _))
    have ob10 := hide (ob8.out.below h810 (Nat.le_refl _))
    have hx10 := hx8.below h810 (by omega)
    have hy10 := hy8.below h810 (by omega)
    have hg10 := hg8.below h810 (by omega)
    have gw10 := hide (gw8.out.below h810 (fun b hb => by rcases hb with hb | hb; exact hb.elim; have := hb.2; omega))
    have og10 := hide (og8.out.below h810)
    refine (markAhead_c A4 ds.length c4 B4 ws.length d4 k u3.heap.size K4 ds ws u10 rfl rfl hdl hwl hK4 oa10.out (fun b hb => (hltA.out b hb).2.2) ob10.out (by omega)).mono ?_
    rintro e u11 ⟨rfl, hlow11, hblk11⟩
    have hz11 := hlow11.size
    have hB11 := hB10.trans (hlow11.mono (by omega))
    have hx11 := hx10.below hlow11 (by omega)
    have hy11 := hy10.below hlow11 (by omega)
    have hg11 := hg10.keep (hblk11 u6.heap.size (by omega) (fun e => by have := (hltA.out _ e).2.1; omega) (fun e => by have := (hltB.out _ e).2; omega))
    have gw11 := hide (gw10.out.below hlow11 (fun b hb => by rcases hb with hb | hb; exact hb.elim; have := hb.2; omega))
    have og11 := hide (og10.out.keep (fun b hb1 hb2 => hblk11 b hb2 (fun e => by have := (hltA.out _ e).2.1; omega) (fun e => by have := (hltB.out _ e).2; omega)))
    clear qq0 qq1 qq2 gw10 og10 gw8 og8 oa8 ob8 oa10 ob10 hblk11
    obtain ⟨gg0, gg1, gg2, -, -, -⟩ := hg11.cells
    obtain ⟨yy0, yy1, yy2, -, -, -⟩ := hy11.cells
    have d2 : decide (1 + 5 * (ds.length : Int) + 5 * (ws.length : Int) < 0) = false := decide_eq_false (by omega)
    go_wp2_with fail
    refine (eqGame_c Ag ng ng Bg pg pg Eg qg qg Aw nw cw Bw pw dw Ew qw fw _ _ (sureRes ds ws k) u11 og11.out.gmD (fun b hb => hb.2) gw11.out (fun b hb => by rcases hb with hb | hb; exact hb.elim; have := hb.2; omega) hl.out).mono ?_
    rintro e u12 ⟨rfl, hb12⟩
    have hB12 := hB11.trans (hb12.mono hB11.size)
    have hz12 := hb12.size
    have hx12 := hx11.below hb12 (by omega)
    have hy12 := hy11.below hb12 (by omega)
    have hg12 := hg11.below hb12 (by omega)
    have gw12 := hide (gw11.out.below hb12 (fun b hb => by rcases hb with hb | hb; exact hb.elim; have := hb.2; omega))
    have og12 := hide (og11.out.below hb12)
    have hng : Hid (ng = (sureRes ds ws k).1.length) := hide og12.out.en.lenEq
    have hpg : Hid (pg = (sureRes ds ws k).2.1.length) := hide og12.out.fl.lenEq
    have hqg : Hid (qg = (sureRes ds ws k).2.2.length) := hide og12.out.la.lenEq
    have hgn : ng ≤ 1000 ∧ pg ≤ 1000 ∧ qg ≤ 1000 := by have h1 := hng.out; have h2 := hpg.out; have h3 := hqg.out; have h4 := hl.out; omega
    clear gg0 gg1 gg2 yy0 yy1 yy2 gw11 og11
    obtain ⟨gg0, gg1, gg2, -, -, -⟩ := hg12.cells
    go_wp2_with fail
    refine (markGame_c Ag ng Bg pg Eg qg u5.heap.size (sureRes ds ws k) u12 og12.out (by omega) hl.out).mono ?_
    rintro e u13 ⟨rfl, om13, hlow13, hblk13⟩
    have hz13 := hlow13.size
    have hx13 := hx12.below hlow13 (by omega)
    have hy13 := hy12.below hlow13 (by omega)
    have hg13 := hg12.keep (hblk13 u6.heap.size (by omega) (fun e => by have := (hog.out _ (.inl e)).2; omega) (fun e => by have := (hog.out _ (.inr (.inl e))).2; omega) (fun e => by have := (hog.out _ (.inr (.inr e))).2; omega))
    have gw13 := hide (gw12.out.below hlow13 (fun b hb => by rcases hb with hb | hb; exact hb.elim; have := hb.2; omega))
    have hB13 := hB12.trans (hlow13.mono (by omega))
    have om13h := hide om13
    clear gg0 gg1 gg2 gw12 og12 om13 hblk13
    obtain ⟨gg0, gg1, gg2, -, -, -⟩ := hg13.cells
    go_wp2_with fail
    refine (heldGame_c Ag ng Bg pg Eg qg u5.heap.size u13 om13h.out hgn.1 hgn.2.1 hgn.2.2).mono ?_
    rintro e u14 ⟨rfl, hb14⟩
    have hB14 := hB13.trans (hb14.mono (by omega))
    have hz14 := hb14.size
    have hx14 := hx13.below hb14 (by omega)
    have hy14 := hy13.below hb14 (by omega)
    have hg14 := hg13.below hb14 (by omega)
    have gw14 := hide (gw13.out.below hb14 (fun b hb => by rcases hb with hb | hb; exact hb.elim; have := hb.2; omega))
    have om14 := hide (om13h.out.below hb14)
    have d3 : decide (1 + 5 * (ng : Int) + (pg : Int) + (qg : Int) < 0) = false := decide_eq_false (by omega)
    clear gg0 gg1 gg2 gw13 om13h
    obtain ⟨aa0, aa1, aa2, -, -, -⟩ := hx14.cells
    go_wp2_with fail
    refine (kt.out _ hB14).mono ?_
    rintro e u15 ⟨A15, c15, B15, d15, K15, rfl, hK15, oa15, -, ob15, hb15⟩
    have hB15 := hB14.trans (hb15.mono (by omega))
    have hz15 := hb15.size
    go_wp2_with fail
    refine (AheadSureO_c A15 ds.length c15 B15 ws.length d15 k u14.heap.size u15.heap.size ds ws u15 (oa15.rdn encReq_len) ((ob15.mono hK15).rdn encReq_len) hdl hwl (Nat.le_refl _)).mono ?_
    rintro e u16 ⟨Ah, nh, Bh, ph, Eh, qh, rfl, oh, hb16⟩
    have hB16 := hB15.trans (hb16.mono (by omega))
    have hz16 := hb16.size
    have hA17 := (Below.refl u16.heap.size u16).alloc (Nat.le_refl _) (.cells #[.slice Ah nh nh, .slice Bh ph ph, .slice Eh qh qh] 27)
    have hh17 := Bx3.made u16 (.slice Ah nh nh) (.slice Bh ph ph) (.slice Eh qh qh) 27
    have h1417 := hb15.trans ((hb16.mono hz15).trans (hA17.mono (by omega)))
    have hz1417 := h1417.size
    have hB17 := hB16.trans (hA17.mono (by omega))
    have oh17 := hide (oh.below hA17)
    have hy17 := hy14.below h1417 (by omega)
    have hg17 := hg14.below h1417 (by omega)
    have gw17 := hide (gw14.out.below h1417 (fun b hb => by rcases hb with hb | hb; exact hb.elim; have := hb.2; omega))
    have om17 := hide (om14.out.below h1417)
    clear aa0 aa1 aa2 oh oa15 ob15 gw14 om14
    obtain ⟨zz0, zz1, zz2, -, -, -⟩ := hh17.cells
    obtain ⟨yy0, yy1, yy2, -, -, -⟩ := hy17.cells
    go_wp2_with fail
    generalize u16.alloc (.cells #[.slice Ah nh nh, .slice Bh ph ph, .slice Eh qh qh] 27) = u17 at *
    refine (eqGame_c Ah nh nh Bh ph ph Eh qh qh Aw nw cw Bw pw dw Ew qw fw _ _ (sureRes ds ws k) u17 oh17.out.gmD (fun b hb => hb.2) gw17.out (fun b hb => by rcases hb with hb | hb; exact hb.elim; have := hb.2; omega) hl.out).mono ?_
    rintro e u18 ⟨rfl, hb18⟩
    have hB18 := hB17.trans (hb18.mono (by omega))
    have hz18 := hb18.size
    have hg18 := hg17.below hb18 (by omega)
    have om18 := hide (om17.out.below hb18)
    clear zz0 zz1 zz2 yy0 yy1 yy2 om17 oh17 gw17
    obtain ⟨gg0, gg1, gg2, -, -, -⟩ := hg18.cells
    go_wp2_with fail
    refine (heldGame_c Ag ng Bg pg Eg qg u5.heap.size u18 om18.out hgn.1 hgn.2.1 hgn.2.2).mono ?_
    rintro e u19 ⟨rfl, hb19⟩
    have hB19 := hB18.trans (hb19.mono (by omega))
    go_wp2_with fail
    go_ret
    exact ⟨rfl, hB19⟩
  · have d1 : decide ((-1 : Int) < 0) = true := by decide
    go_enter Try.func5, Try.ntmps5
    go_wp2_with fail
    refine (szAhead_c A n c B m d k _ hmn hmm).mono ?_
    rintro e u0 ⟨rfl, hB0⟩
    rw [if_neg hz]
    go_wp2
    go_ret
    exact ⟨rfl, hA0.trans (hB0.mono hA0.size)⟩

theorem aheadRes_len (ds ws : List ReqT) (k : Int) : (aheadRes ds ws k).1.length ≤ 1000 ∧ (aheadRes ds ws k).2.1.length ≤ 1000 ∧ (aheadRes ds ws k).2.2.length ≤ 1000 := by
  unfold aheadRes
  split
  · rename_i h
    exact okGD_len (okG.folding newG_ok (fun r hr => ahOk_all h r (hr)))
  · simp [emptyG]
set_option maxRecDepth 100000 in
set_option maxHeartbeats 8000000 in
theorem lawFnExactAheadGame (A : Option Addr) (n c : Nat) (B : Option Addr) (m d : Nat) (k : Int) (ds ws : List ReqT) (w : World) (hnd : n = ds.length) (hmd : m = ws.length) (hsd : Sl encReq 5 w 0 w.heap.size A ds) (hsw : Sl encReq 5 w 0 w.heap.size B ws) (hmn : n ≤ maxLen) (hmm : m ≤ maxLen) :
    Calls Try.prog 4 #[.agg #[.slice A n c, .slice B m d, .int .i64 k]] w fun e w' => e = .returned (.bool true) ∧ Below w.heap.size w w' := by
  have hA0 := (Below.refl w.heap.size w).alloc (Nat.le_refl _) (.cells #[.slice A n c, .slice B m d, .int .i64 k] 37)
  have hx0 := Bx3.made w (.slice A n c) (.slice B m d) (.int .i64 k) 37
  have hz0 : w.heap.size + 1 ≤ (w.alloc (.cells #[.slice A n c, .slice B m d, .int .i64 k] 37)).heap.size := by simp only [World.size_alloc]; omega
  have hnl := hide hnd
  have hml := hide hmd
  have hsd' := hide hsd
  have hsw' := hide hsw
  clear hnd hmd hsd hsw
  have hl := hide (aheadRes_len ds ws k)
  by_cases hz : n + m ≤ 1048576
  · have d1 : decide ((1048576 : Int) - (n : Int) - (m : Int) < 0) = false := decide_eq_false (by omega)
    have kt := hide (fun W (h : Below w.heap.size w W) => toAhead_c A n c B m d k w.heap.size ds ws W hnl.out hml.out (by omega) (by omega) (hsd'.out.below h (Nat.le_refl _)) (hsw'.out.below h (Nat.le_refl _)) h.size)
    have hdl : ds.length ≤ 1048576 := by have := hnl.out; omega
    have hwl : ws.length ≤ 1048576 := by have := hml.out; omega
    go_enter Try.func4, Try.ntmps4
    go_wp2_with fail
    generalize w.alloc (.cells #[.slice A n c, .slice B m d, .int .i64 k] 37) = w1 at *
    refine (szAhead_c A n c B m d k w1 hmn hmm).mono ?_
    rintro e u0 ⟨rfl, hb0⟩
    rw [if_pos hz]
    have hB0 := hA0.trans (hb0.mono hA0.size)
    have hz0' := hb0.size
    have hx0 := hx0.below hb0 hx0.lt
    have hxl0 := hx0.lt
    obtain ⟨aa0, aa1, aa2, -, -, -⟩ := hx0.cells
    go_wp2_with fail
    refine (kt.out _ hB0).mono ?_
    rintro e u1 ⟨A1, c1, B1, d1', K1, rfl, hK1, oa1, -, ob1, hb1⟩
    have hB1 := hB0.trans (hb1.mono hB0.size)
    have hz1 := hb1.size
    have hx1 := hx0.below hb1 hxl0
    go_wp2_with fail
    refine (AheadGameS_c A1 ds.length c1 B1 ws.length d1' k u0.heap.size u1.heap.size ds ws u1 (oa1.rdn encReq_len) ((ob1.mono hK1).rdn encReq_len) hdl hwl (Nat.le_refl _)).mono ?_
    rintro e u2 ⟨Aw, nw, cw, Bw, pw, dw, Ew, qw, fw, rfl, gw, hb2⟩
    have hB2 := hB1.trans (hb2.mono hB1.size)
    have hz2 := hb2.size
    have hA3 := (Below.refl u2.heap.size u2).alloc (Nat.le_refl _) (.cells #[.slice Aw nw cw, .slice Bw pw dw, .slice Ew qw fw] 27)
    have hy3 := Bx3.made u2 (.slice Aw nw cw) (.slice Bw pw dw) (.slice Ew qw fw) 27
    have gw3 := hide (gw.below hA3 (fun b hb => by rcases hb with hb | hb; exact hb.elim; exact hb.2))
    have hB3 := hB2.trans (hA3.mono hB2.size)
    have hz3 : u2.heap.size + 1 ≤ (u2.alloc (.cells #[.slice Aw nw cw, .slice Bw pw dw, .slice Ew qw fw] 27)).heap.size := by simp only [World.size_alloc]; omega
    have hx3 := (hx1.below hb2 (by omega)).below hA3 (by omega)
    clear gw oa1 ob1
    clear aa0 aa1 aa2
    obtain ⟨aa0, aa1, aa2, -, -, -⟩ := hx3.cells
    go_wp2_with fail
    generalize u2.alloc (.cells #[.slice Aw nw cw, .slice Bw pw dw, .slice Ew qw fw] 27) = u3 at *
    refine (kt.out _ hB3).mono ?_
    rintro e u4 ⟨A4, c4, B4, d4, K4, rfl, hK4, oa4, hlA4, ob4, hb4⟩
    have hB4 := hB3.trans (hb4.mono hB3.size)
    have hz4 := hb4.size
    have hA5 := (Below.refl u4.heap.size u4).alloc (Nat.le_refl _) (.cells #[.slice A4 ds.length c4, .slice B4 ws.length d4, .int .i64 k] 41)
    have hq5 := Bx3.made u4 (.slice A4 ds.length c4) (.slice B4 ws.length d4) (.int .i64 k) 41
    have hz5 : u4.heap.size + 1 ≤ (u4.alloc (.cells #[.slice A4 ds.length c4, .slice B4 ws.length d4, .int .i64 k] 41)).heap.size := by simp only [World.size_alloc]; omega
    have hB5 := hB4.trans (hA5.mono hB4.size)
    have h35 := hb4.trans (hA5.mono hz4)
    have hx5 := hx3.below h35 (by omega)
    have hy5 := hy3.below h35 hy3.lt
    have gw5 := hide (gw3.out.below h35 (fun b hb => by rcases hb with hb | hb; exact hb.elim; have := hb.2; omega))
    have hltA : Hid (∀ b, (Value.slice A4 ds.length c4).ownBlock = some b → u3.heap.size ≤ b ∧ b < u4.heap.size ∧ b < K4) := hide (fun b hb => ⟨(oa4.lt b hb).1, (oa4.lt b hb).2, hlA4 b hb⟩)
    have hltB : Hid (∀ b, (Value.slice B4 ws.length d4).ownBlock = some b → u3.heap.size ≤ b ∧ b < u4.heap.size) := hide (fun b hb => ⟨Nat.le_trans hK4 (ob4.lt b hb).1, (ob4.lt b hb).2⟩)
    have oa5 := hide (oa4.below hA5 (Nat.le_refl _))
    have ob5 := hide (ob4.below hA5 (Nat.le_refl _))
    clear gw3 oa4 ob4 hlA4 aa0 aa1 aa2
    obtain ⟨qq0, qq1, qq2, -, -, -⟩ := hq5.cells
    go_wp2_with fail
    generalize u4.alloc (.cells #[.slice A4 ds.length c4, .slice B4 ws.length d4, .int .i64 k] 41) = u5 at *
    refine (AheadGameO_c A4 ds.length c4 B4 ws.length d4 k u3.heap.size u5.heap.size ds ws u5 (oa5.out.rdn encReq_len) ((ob5.out.mono hK4).rdn encReq_len) hdl hwl (Nat.le_refl _)).mono ?_
    rintro e u6 ⟨Ag, ng, Bg, pg, Eg, qg, rfl, og, hb6⟩
    have hB6 := hB5.trans (hb6.mono hB5.size)
    have hz6 := hb6.size
    have hA7 := (Below.refl u6.heap.size u6).alloc (Nat.le_refl _) (.cells #[.slice Ag ng ng, .slice Bg pg pg, .slice Eg qg qg] 27)
    have hg7 := Bx3.made u6 (.slice Ag ng ng) (.slice Bg pg pg) (.slice Eg qg qg) 27
    have hz7 : u6.heap.size + 1 ≤ (u6.alloc (.cells #[.slice Ag ng ng, .slice Bg pg pg, .slice Eg qg qg] 27)).heap.size := by simp only [World.size_alloc]; omega
    have og7 := hide (og.below hA7)
    have hog : Hid (∀ k, ((Value.slice Ag ng ng).ownBlock = some k ∨ (Value.slice Bg pg pg).ownBlock = some k ∨ (Value.slice Eg qg qg).ownBlock = some k) → u5.heap.size ≤ k ∧ k < u6.heap.size) := hide (fun k hk => by
      rcases hk with h | h | h
      · exact og.en.lt k h
      · exact og.fl.lt k h
      · exact og.la.lt k h)
    have h57 := hb6.trans (hA7.mono hz6)
    have hB7 := hB6.trans (hA7.mono hB6.size)
    have hx7 := hx5.below h57 (by omega)
    have hy7 := hy5.below h57 (by omega)
    have hq7 := hq5.below h57 (by omega)
    have gw7 := hide (gw5.out.below h57 (fun b hb => by rcases hb with hb | hb; exact hb.elim; have := hb.2; omega))
    have oa7 := hide (oa5.out.below h57 (Nat.le_refl _))
    have ob7 := hide (ob5.out.below h57 (Nat.le_refl _))
    clear og gw5 oa5 ob5 qq0 qq1 qq2
    obtain ⟨gg0, gg1, gg2, -, -, -⟩ := hg7.cells
    obtain ⟨yy0, yy1, yy2, -, -, -⟩ := hy7.cells
    go_wp2_with fail
    generalize u6.alloc (.cells #[.slice Ag ng ng, .slice Bg pg pg, .slice Eg qg qg] 27) = u7 at *
    refine (eqGame_c Ag ng ng Bg pg pg Eg qg qg Aw nw cw Bw pw dw Ew qw fw _ _ (aheadRes ds ws k) u7 og7.out.gmD (fun b hb => hb.2) gw7.out (fun b hb => by rcases hb with hb | hb; exact hb.elim; have := hb.2; omega) hl.out).mono ?_
    rintro e u8 ⟨rfl, hb8⟩
    have hB8 := hB7.trans (hb8.mono hB7.size)
    have hz8 := hb8.size
    have hx8 := hx7.below hb8 (by omega)
    have hy8 := hy7.below hb8 (by omega)
    have hq8 := hq7.below hb8 (by omega)
    have hg8 := hg7.below hb8 hg7.lt
    have gw8 := hide (gw7.out.below hb8 (fun b hb => by rcases hb with hb | hb; exact hb.elim; have := hb.2; omega))
    have oa8 := hide (oa7.out.below hb8 (Nat.le_refl _))
    have ob8 := hide (ob7.out.below hb8 (Nat.le_refl _))
    have og8 := hide (og7.out.below hb8)
    clear gg0 gg1 gg2 yy0 yy1 yy2 gw7 oa7 ob7 og7
    obtain ⟨aa0, aa1, aa2, -, -, -⟩ := hx8.cells
    obtain ⟨qq0, qq1, qq2, -, -, -⟩ := hq8.cells
    have hlx8 := hx8.lt
    have hlq8 := hq8.lt
    go_wp2
    refine wp_region_T (SinceB (u8.heap.size) _) [] [] [27] [0, 1, 2, 3, 4] (by kernel_rfl) (by kernel_rfl) (by kernel_rfl) (SinceB.drew _ _) ?_; simp only [pickL, List.getElem?_cons_succ, List.getElem?_cons_zero]
    go_wp2_with (first
      | (go_at_call 19; refine (eqAhead_c A4 ds.length c4 B4 ws.length d4 A9 ds.length c9 B9 ws.length d9 k 0 u9.heap.size ds ws u9 rfl rfl rfl rfl hdl hwl oa49.out ob49.out oa9.out ob9.out (Nat.le_refl _)).mono ?_; rintro e u10 ⟨rfl, hb10⟩; have h810 : Below u8.heap.size u8 u10 := Below.appR hb89 hb10; have hz10 := h810.size; have hS10 : SinceB (u8.heap.size) u8 u10 := (SinceB.refl _ _).below h810 (by omega); have hq10 := hq8.below h810 hq8.lt; clear qq0 qq1 qq2 aa0 aa1 aa2; obtain ⟨qq0, qq1, qq2, -, -, -⟩ := hq10.cells; have hK := hK)
      | (go_at_call 17; refine (kt.out _ hB8.drew).mono ?_; rintro e u9 ⟨A9, c9, B9, d9, K9, rfl, hK9, oa9', -, ob9', hb9⟩; have hb89 : Below u8.heap.size u8 u9 := Below.appR (Below.drew (Below.refl _ _)) hb9; have hz9 := hb89.size; have hS9 : SinceB (u8.heap.size) u8 u9 := (SinceB.refl _ _).below hb89 (by omega); have oa9 := hide ((oa9'.slAt encReq_len).2.2.mono (Nat.zero_le _) (Nat.le_refl _)); have ob9 := hide ((ob9'.slAt encReq_len).2.2.mono (Nat.zero_le _) (Nat.le_refl _)); have oa49 := hide (((oa8.out.below hb89 (Nat.le_refl _)).slAt encReq_len).2.2.mono (Nat.zero_le _) (Nat.le_refl _)); have ob49 := hide (((ob8.out.below hb89 (Nat.le_refl _)).slAt encReq_len).2.2.mono (Nat.zero_le _) (Nat.le_refl _)); clear oa9' ob9'; have hK := hK)
      | (with_reducible refine SinceB.and_ ?_ ?_; (focus (repeat (first | (with_reducible exact SinceB.refl _ _) | (with_reducible assumption) | (with_reducible refine SinceB.drewR ?_) | ((with_reducible refine SinceB.alloc ?_ ?_ _); rotate_left; (focus (first | (with_reducible assumption) | (simp; done) | (simp; omega) | omega))) | ((with_reducible refine SinceB.set ?_ ?_ _); rotate_left; (focus (first | omega | (simp; done) | (simp; omega))))))); intro hS) | ((with_reducible refine wpT_noL ?_ ?_); (focus (first | exact wanted_no _ _ _ rfl rfl rfl | exact wanted_un _ _ _ rfl rfl rfl)); simp only [setO, List.set_cons_succ, List.set_cons_zero]) | ((with_reducible refine wpT_q0 ?_ ?_ ?_ ?_); (focus rfl); (focus rfl); (focus rfl); intro K hK) | ((with_reducible refine wpT_i ?_ ?_); (focus (refine ⟨_, _, _, _, _, _, _, _, rfl, rfl, rfl, rfl, rfl, ?_⟩; omega)); intro K hK) | ((with_reducible apply wpT_lB); (focus rfl); (focus rfl); (focus rfl); (focus rfl); (focus (first | exact SinceB.drew _ _ | (with_reducible assumption))); (focus (simp <;> omega)); (focus go_simp); intro K hK) | ((with_reducible apply wpT_lwB); (focus exact wanted_yes _ _ _ rfl rfl rfl); (focus rfl); (focus rfl); (focus rfl); (focus (first | exact SinceB.drew _ _ | (with_reducible assumption))); (focus (simp <;> omega)); (focus go_simp); intro K hK) | ((with_reducible refine wpT_xs0 ?_ ?_ ?_); (focus rfl); (focus rfl); intro K hK) | ((with_reducible refine wpT_q1 ?_ ?_ ?_ ?_); (focus exact wanted_yes _ _ _ rfl rfl rfl); (focus rfl); (focus rfl); intro K hK) | ((with_reducible refine wpT_xs1 ?_ ?_ ?_); (focus exact wanted_yes _ _ _ rfl rfl rfl); (focus rfl); intro K hK) | ((with_reducible refine wpT_nil ?_); try dsimp only)
      | fail)
    have hB10 := hB8.trans (h810.mono (by omega))
    have oa10 := hide (oa8.out.below h810 (Nat.le_refl _))
    have ob10 := hide (ob8.out.below h810 (Nat.le_refl _))
    have hx10 := hx8.below h810 (by omega)
    have hy10 := hy8.below h810 (by omega)
    have hg10 := hg8.below h810 (by omega)
    have gw10 := hide (gw8.out.below h810 (fun b hb => by rcases hb with hb | hb; exact hb.elim; have := hb.2; omega))
    have og10 := hide (og8.out.below h810)
    refine (markAhead_c A4 ds.length c4 B4 ws.length d4 k u3.heap.size K4 ds ws u10 rfl rfl hdl hwl hK4 oa10.out (fun b hb => (hltA.out b hb).2.2) ob10.out (by omega)).mono ?_
    rintro e u11 ⟨rfl, hlow11, hblk11⟩
    have hz11 := hlow11.size
    have hB11 := hB10.trans (hlow11.mono (by omega))
    have hx11 := hx10.below hlow11 (by omega)
    have hy11 := hy10.below hlow11 (by omega)
    have hg11 := hg10.keep (hblk11 u6.heap.size (by omega) (fun e => by have := (hltA.out _ e).2.1; omega) (fun e => by have := (hltB.out _ e).2; omega))
    have gw11 := hide (gw10.out.below hlow11 (fun b hb => by rcases hb with hb | hb; exact hb.elim; have := hb.2; omega))
    have og11 := hide (og10.out.keep (fun b hb1 hb2 => hblk11 b hb2 (fun e => by have := (hltA.out _ e).2.1; omega) (fun e => by have := (hltB.out _ e).2; omega)))
    clear qq0 qq1 qq2 gw10 og10 gw8 og8 oa8 ob8 oa10 ob10 hblk11
    obtain ⟨gg0, gg1, gg2, -, -, -⟩ := hg11.cells
    obtain ⟨yy0, yy1, yy2, -, -, -⟩ := hy11.cells
    have d2 : decide (1 + 5 * (ds.length : Int) + 5 * (ws.length : Int) < 0) = false := decide_eq_false (by omega)
    go_wp2_with fail
    refine (eqGame_c Ag ng ng Bg pg pg Eg qg qg Aw nw cw Bw pw dw Ew qw fw _ _ (aheadRes ds ws k) u11 og11.out.gmD (fun b hb => hb.2) gw11.out (fun b hb => by rcases hb with hb | hb; exact hb.elim; have := hb.2; omega) hl.out).mono ?_
    rintro e u12 ⟨rfl, hb12⟩
    have hB12 := hB11.trans (hb12.mono hB11.size)
    have hz12 := hb12.size
    have hx12 := hx11.below hb12 (by omega)
    have hy12 := hy11.below hb12 (by omega)
    have hg12 := hg11.below hb12 (by omega)
    have gw12 := hide (gw11.out.below hb12 (fun b hb => by rcases hb with hb | hb; exact hb.elim; have := hb.2; omega))
    have og12 := hide (og11.out.below hb12)
    have hng : Hid (ng = (aheadRes ds ws k).1.length) := hide og12.out.en.lenEq
    have hpg : Hid (pg = (aheadRes ds ws k).2.1.length) := hide og12.out.fl.lenEq
    have hqg : Hid (qg = (aheadRes ds ws k).2.2.length) := hide og12.out.la.lenEq
    have hgn : ng ≤ 1000 ∧ pg ≤ 1000 ∧ qg ≤ 1000 := by have h1 := hng.out; have h2 := hpg.out; have h3 := hqg.out; have h4 := hl.out; omega
    clear gg0 gg1 gg2 yy0 yy1 yy2 gw11 og11
    obtain ⟨gg0, gg1, gg2, -, -, -⟩ := hg12.cells
    go_wp2_with fail
    refine (markGame_c Ag ng Bg pg Eg qg u5.heap.size (aheadRes ds ws k) u12 og12.out (by omega) hl.out).mono ?_
    rintro e u13 ⟨rfl, om13, hlow13, hblk13⟩
    have hz13 := hlow13.size
    have hx13 := hx12.below hlow13 (by omega)
    have hy13 := hy12.below hlow13 (by omega)
    have hg13 := hg12.keep (hblk13 u6.heap.size (by omega) (fun e => by have := (hog.out _ (.inl e)).2; omega) (fun e => by have := (hog.out _ (.inr (.inl e))).2; omega) (fun e => by have := (hog.out _ (.inr (.inr e))).2; omega))
    have gw13 := hide (gw12.out.below hlow13 (fun b hb => by rcases hb with hb | hb; exact hb.elim; have := hb.2; omega))
    have hB13 := hB12.trans (hlow13.mono (by omega))
    have om13h := hide om13
    clear gg0 gg1 gg2 gw12 og12 om13 hblk13
    obtain ⟨gg0, gg1, gg2, -, -, -⟩ := hg13.cells
    go_wp2_with fail
    refine (heldGame_c Ag ng Bg pg Eg qg u5.heap.size u13 om13h.out hgn.1 hgn.2.1 hgn.2.2).mono ?_
    rintro e u14 ⟨rfl, hb14⟩
    have hB14 := hB13.trans (hb14.mono (by omega))
    have hz14 := hb14.size
    have hx14 := hx13.below hb14 (by omega)
    have hy14 := hy13.below hb14 (by omega)
    have hg14 := hg13.below hb14 (by omega)
    have gw14 := hide (gw13.out.below hb14 (fun b hb => by rcases hb with hb | hb; exact hb.elim; have := hb.2; omega))
    have om14 := hide (om13h.out.below hb14)
    have d3 : decide (1 + 5 * (ng : Int) + (pg : Int) + (qg : Int) < 0) = false := decide_eq_false (by omega)
    clear gg0 gg1 gg2 gw13 om13h
    obtain ⟨aa0, aa1, aa2, -, -, -⟩ := hx14.cells
    go_wp2_with fail
    refine (kt.out _ hB14).mono ?_
    rintro e u15 ⟨A15, c15, B15, d15, K15, rfl, hK15, oa15, -, ob15, hb15⟩
    have hB15 := hB14.trans (hb15.mono (by omega))
    have hz15 := hb15.size
    go_wp2_with fail
    refine (AheadGameO_c A15 ds.length c15 B15 ws.length d15 k u14.heap.size u15.heap.size ds ws u15 (oa15.rdn encReq_len) ((ob15.mono hK15).rdn encReq_len) hdl hwl (Nat.le_refl _)).mono ?_
    rintro e u16 ⟨Ah, nh, Bh, ph, Eh, qh, rfl, oh, hb16⟩
    have hB16 := hB15.trans (hb16.mono (by omega))
    have hz16 := hb16.size
    have hA17 := (Below.refl u16.heap.size u16).alloc (Nat.le_refl _) (.cells #[.slice Ah nh nh, .slice Bh ph ph, .slice Eh qh qh] 27)
    have hh17 := Bx3.made u16 (.slice Ah nh nh) (.slice Bh ph ph) (.slice Eh qh qh) 27
    have h1417 := hb15.trans ((hb16.mono hz15).trans (hA17.mono (by omega)))
    have hz1417 := h1417.size
    have hB17 := hB16.trans (hA17.mono (by omega))
    have oh17 := hide (oh.below hA17)
    have hy17 := hy14.below h1417 (by omega)
    have hg17 := hg14.below h1417 (by omega)
    have gw17 := hide (gw14.out.below h1417 (fun b hb => by rcases hb with hb | hb; exact hb.elim; have := hb.2; omega))
    have om17 := hide (om14.out.below h1417)
    clear aa0 aa1 aa2 oh oa15 ob15 gw14 om14
    obtain ⟨zz0, zz1, zz2, -, -, -⟩ := hh17.cells
    obtain ⟨yy0, yy1, yy2, -, -, -⟩ := hy17.cells
    go_wp2_with fail
    generalize u16.alloc (.cells #[.slice Ah nh nh, .slice Bh ph ph, .slice Eh qh qh] 27) = u17 at *
    refine (eqGame_c Ah nh nh Bh ph ph Eh qh qh Aw nw cw Bw pw dw Ew qw fw _ _ (aheadRes ds ws k) u17 oh17.out.gmD (fun b hb => hb.2) gw17.out (fun b hb => by rcases hb with hb | hb; exact hb.elim; have := hb.2; omega) hl.out).mono ?_
    rintro e u18 ⟨rfl, hb18⟩
    have hB18 := hB17.trans (hb18.mono (by omega))
    have hz18 := hb18.size
    have hg18 := hg17.below hb18 (by omega)
    have om18 := hide (om17.out.below hb18)
    clear zz0 zz1 zz2 yy0 yy1 yy2 om17 oh17 gw17
    obtain ⟨gg0, gg1, gg2, -, -, -⟩ := hg18.cells
    go_wp2_with fail
    refine (heldGame_c Ag ng Bg pg Eg qg u5.heap.size u18 om18.out hgn.1 hgn.2.1 hgn.2.2).mono ?_
    rintro e u19 ⟨rfl, hb19⟩
    have hB19 := hB18.trans (hb19.mono (by omega))
    go_wp2_with fail
    go_ret
    exact ⟨rfl, hB19⟩
  · have d1 : decide ((-1 : Int) < 0) = true := by decide
    go_enter Try.func4, Try.ntmps4
    go_wp2_with fail
    refine (szAhead_c A n c B m d k _ hmn hmm).mono ?_
    rintro e u0 ⟨rfl, hB0⟩
    rw [if_neg hz]
    go_wp2
    go_ret
    exact ⟨rfl, hA0.trans (hB0.mono hA0.size)⟩
end Go.Proofs.Ytipdkcdhnppdoaa
