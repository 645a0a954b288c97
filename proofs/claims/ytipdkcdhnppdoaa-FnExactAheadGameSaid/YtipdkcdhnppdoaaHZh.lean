/-
  'FnExactGameFold' returns true, for every argument.
  Conditions: none.
-/
import Derived.Test.YtipdkcdhnppdoaaHZg
namespace Go.Proofs.Ytipdkcdhnppdoaa
open Go.RowKit Rg
set_option linter.unusedVariables false
set_option linter.unusedSimpArgs false

theorem szReq_yes (A : Option Addr) (n c : Nat) (w : World) (hz : n ≤ 1048576) :
    Calls Try.prog 6 #[.slice A n c, .int .i64 1048576] w fun e w' => e = .returned (.int .i64 (1048576 - (n : Int))) ∧ Below w.heap.size w w' := by
  have d1 : decide ((1048576 : Int) - (n : Int) < 0) = false := decide_eq_false (by omega)
  go_enter Try.func6, Try.ntmps6
  go_wp2
  go_ret
  exact ⟨rfl, Below.refl _ _⟩
theorem szReq_no (A : Option Addr) (n c : Nat) (w : World) (hz : ¬ n ≤ 1048576) (hm : n ≤ maxLen) :
    Calls Try.prog 6 #[.slice A n c, .int .i64 1048576] w fun e w' => e = .returned (.int .i64 (-1)) ∧ Below w.heap.size w w' := by
  unfold maxLen at hm
  have d1 : decide ((1048576 : Int) - (n : Int) < 0) = true := decide_eq_true (by omega)
  go_enter Try.func6, Try.ntmps6
  go_wp2
  go_ret
  exact ⟨rfl, Below.refl _ _⟩

theorem foldRes_len (rs : List ReqT) : (foldRes rs).1.length ≤ 1000 ∧ (foldRes rs).2.1.length ≤ 1000 ∧ (foldRes rs).2.2.length ≤ 1000 := by
  unfold foldRes
  split
  · rename_i h
    exact okGD_len (okG.folding newG_ok (fun r hr => (okN_iff r).1 (List.all_eq_true.1 h.1 r hr)))
  · simp [emptyG]
set_option maxRecDepth 100000 in
set_option maxHeartbeats 4000000 in
theorem lawExactGameFold (A : Option Addr) (n c : Nat) (rs : List ReqT) (w : World) (hn : n = rs.length) (hs : Sl encReq 5 w 0 w.heap.size A rs) (hm : n ≤ maxLen) :
    Calls Try.prog 3 #[.slice A n c] w fun e w' => e = .returned (.bool true) ∧ Below w.heap.size w w' := by
  have hn' := hide hn
  have hs' := hide hs
  clear hn hs
  have hl := hide (foldRes_len rs)
  by_cases hz : n ≤ 1048576
  · have d1 : decide ((1048576 : Int) - (n : Int) < 0) = false := decide_eq_false (by omega)
    have kt := hide (fun W (h : Below w.heap.size w W) => toReqS_c A n c 0 w.heap.size rs W hn'.out hz (hs'.out.below h (Nat.le_refl _)) h.size)
    have hrl : rs.length ≤ 1048576 := by have := hn'.out; omega
    go_enter Try.func3, Try.ntmps3
    go_wp2_with fail
    refine (szReq_yes A n c w hz).mono ?_
    rintro e u0 ⟨rfl, hB0⟩
    have hz0 := hB0.size
    go_wp2_with fail
    refine (kt.out _ hB0).mono ?_
    rintro e u1 ⟨v1, rfl, o1, hb1⟩
    obtain ⟨A1, c1, rfl, _, _, _⟩ := o1.form
    have hB1 := hB0.trans (hb1.mono hz0)
    have hz1 := hB1.size
    go_wp2_with fail
    refine (GameFoldS_c A1 rs.length c1 u0.heap.size u1.heap.size rs u1 rfl hrl (o1.slAt encReq_len).2.2 (Nat.le_refl _)).mono ?_
    rintro e u2 ⟨Aw, nw, cw, Bw, pw, dw, Ew, qw, fw, rfl, gw, hb2⟩
    have hB2 := hB1.trans (hb2.mono hz1)
    have hz2 := hb2.size
    have hzz2 := hB2.size
    have hA3 := (Below.refl u2.heap.size u2).alloc (Nat.le_refl _) (.cells #[.slice Aw nw cw, .slice Bw pw dw, .slice Ew qw fw] 27)
    have hx3 := Bx3.made u2 (.slice Aw nw cw) (.slice Bw pw dw) (.slice Ew qw fw) 27
    have gw3 := hide (gw.below hA3 (fun b hb => by rcases hb with hb | hb; exact hb.elim; exact hb.2))
    have hB3 := hB2.trans (hA3.mono hB2.size)
    have hz3 : u2.heap.size + 1 ≤ (u2.alloc (.cells #[.slice Aw nw cw, .slice Bw pw dw, .slice Ew qw fw] 27)).heap.size := by simp only [World.size_alloc]; omega
    obtain ⟨yy0, yy1, yy2, -, -, -⟩ := hx3.cells
    clear gw o1
    go_wp2_with fail
    generalize u2.alloc (.cells #[.slice Aw nw cw, .slice Bw pw dw, .slice Ew qw fw] 27) = u3 at *
    refine (kt.out _ hB3).mono ?_
    rintro e u4 ⟨v4, rfl, o4, hb4⟩
    obtain ⟨A4, c4, rfl, _, _, _⟩ := o4.form
    have hB4 := hB3.trans (hb4.mono hB3.size)
    have hz4 := hb4.size
    have hx4 := hx3.below hb4 hx3.lt
    have gw4 := hide (gw3.out.below hb4 (fun b hb => by rcases hb with hb | hb; exact hb.elim; have := hb.2; omega))
    have o4h := hide o4
    have ho4lt : Hid (∀ b, (Value.slice A4 rs.length c4).ownBlock = some b → u3.heap.size ≤ b ∧ b < u4.heap.size) := hide (fun b hb => o4.lt b hb)
    clear yy0 yy1 yy2 gw3 o4
    go_wp2_with fail
    refine (GameFoldO_c A4 rs.length c4 u3.heap.size u4.heap.size rs u4 rfl hrl (o4h.out.slAt encReq_len).2.2 (o4h.out.rdn encReq_len) (Nat.le_refl _)).mono ?_
    rintro e u5 ⟨Ag, ng, Bg, pg, Eg, qg, rfl, og, hb5⟩
    have hB5 := hB4.trans (hb5.mono hB4.size)
    have hz5 := hb5.size
    have hA6 := (Below.refl u5.heap.size u5).alloc (Nat.le_refl _) (.cells #[.slice Ag ng ng, .slice Bg pg pg, .slice Eg qg qg] 27)
    have hx6 := Bx3.made u5 (.slice Ag ng ng) (.slice Bg pg pg) (.slice Eg qg qg) 27
    have hs6 : (u5.alloc (.cells #[.slice Ag ng ng, .slice Bg pg pg, .slice Eg qg qg] 27)).heap.size = u5.heap.size + 1 := by simp
    have og6 := hide (og.below hA6)
    have hog : Hid (∀ k, ((Value.slice Ag ng ng).ownBlock = some k ∨ (Value.slice Bg pg pg).ownBlock = some k ∨ (Value.slice Eg qg qg).ownBlock = some k) → u4.heap.size ≤ k ∧ k < u5.heap.size) := hide (fun k hk => by
      rcases hk with h | h | h
      · exact og.en.lt k h
      · exact og.fl.lt k h
      · exact og.la.lt k h)
    have h56 := hb5.trans (hA6.mono hz5)
    have hB6 := hB5.trans (hA6.mono hB5.size)
    have hx46 := hx4.below h56 hx4.lt
    have gw6 := hide (gw4.out.below h56 (fun b hb => by rcases hb with hb | hb; exact hb.elim; have := hb.2; omega))
    have o46 := hide (o4h.out.below h56 (Nat.le_refl _))
    obtain ⟨xx0, xx1, xx2, -, -, -⟩ := hx6.cells
    obtain ⟨yy0, yy1, yy2, -, -, -⟩ := hx46.cells
    clear og o4h gw4
    go_wp2_with fail
    generalize u5.alloc (.cells #[.slice Ag ng ng, .slice Bg pg pg, .slice Eg qg qg] 27) = u6 at *
    refine (eqGame_c Ag ng ng Bg pg pg Eg qg qg Aw nw cw Bw pw dw Ew qw fw _ _ (foldRes rs) u6 og6.out.gmD (fun b hb => hb.2) gw6.out (fun b hb => by rcases hb with hb | hb; exact hb.elim; have := hb.2; omega) hl.out).mono ?_
    rintro e u7 ⟨rfl, hb7⟩
    have hB7 := hB6.trans (hb7.mono hB6.size)
    have hz7 := hb7.size
    have o47 := hide (o46.out.below hb7 (by omega))
    go_wp2_with fail
    refine (kt.out _ hB7).mono ?_
    rintro e u8 ⟨v8, rfl, o8, hb8⟩
    obtain ⟨A8, c8, rfl, _, _, _⟩ := o8.form
    have hB8 := hB7.trans (hb8.mono hB7.size)
    have hz8 := hb8.size
    have o48 := hide (o47.out.below hb8 (by omega))
    have o8h := hide o8
    clear o8 o47 o46
    go_wp2_with fail
    refine (eqReqS_c A4 A8 rs.length rs.length c4 c8 _ _ _ _ rs rs u8 rfl rfl hrl hrl (o48.out.slAt encReq_len).2.2 (o8h.out.slAt encReq_len).2.2 (Nat.le_refl _) (Nat.le_refl _)).mono ?_
    rintro e u9 ⟨rfl, hb9⟩
    rw [decide_eq_true (rfl : rs = rs)]
    have hB9 := hB8.trans (hb9.mono hB8.size)
    have hz9 := hb9.size
    have o49 := hide (o48.out.below hb9 (by omega))
    have h69 := (hb7.trans (hb8.mono hz7)).trans (hb9.mono (by omega))
    have hx49 := hx46.below h69 hx46.lt
    have hx69 := hx6.below h69 hx6.lt
    have gw9 := hide (gw6.out.below h69 (fun b hb => by rcases hb with hb | hb; exact hb.elim; have := hb.2; omega))
    have og9 := hide (og6.out.below h69)
    clear o8h o48 gw6 og6
    go_wp2_with fail
    refine (markReqS_c A4 rs.length c4 u3.heap.size 1 rs u9 rfl hrl (by omega) (by omega) o49.out).mono ?_
    rintro e u10 ⟨rfl, o410, ho10⟩
    have hlow : Below u3.heap.size u9 u10 := ho10.toBelow (B' := u3.heap.size) (by omega) (fun k hk => (ho4lt.out k hk).1)
    have hz10 := hlow.size
    have hx410 := hx49.below hlow (by omega)
    have hx610 := hx69.keep (ho10.block u5.heap.size (by omega) (fun e => by have := (ho4lt.out _ e).2; omega))
    have gw10 := hide (gw9.out.below hlow (fun b hb => by rcases hb with hb | hb; exact hb.elim; have := hb.2; omega))
    have og10 := hide (og9.out.keep (fun b hb1 hb2 => ho10.block b hb2 (fun e => by have := (ho4lt.out _ e).2; omega)))
    have hB10 := hB9.trans (hlow.mono hB3.size)
    clear xx0 xx1 xx2 yy0 yy1 yy2 gw9 og9 ho10 o410
    obtain ⟨xx0, xx1, xx2, -, -, -⟩ := hx610.cells
    obtain ⟨yy0, yy1, yy2, -, -, -⟩ := hx410.cells
    have d2 : decide (1 + 5 * (rs.length : Int) < 0) = false := decide_eq_false (by omega)
    go_wp2_with fail
    refine (eqGame_c Ag ng ng Bg pg pg Eg qg qg Aw nw cw Bw pw dw Ew qw fw _ _ (foldRes rs) u10 og10.out.gmD (fun b hb => hb.2) gw10.out (fun b hb => by rcases hb with hb | hb; exact hb.elim; have := hb.2; omega) hl.out).mono ?_
    rintro e u11 ⟨rfl, hb11⟩
    have hB11 := hB10.trans (hb11.mono hB10.size)
    have hz11 := hb11.size
    have hx411 := hx410.below hb11 hx410.lt
    have hx611 := hx610.below hb11 hx610.lt
    have gw11 := hide (gw10.out.below hb11 (fun b hb => by rcases hb with hb | hb; exact hb.elim; have := hb.2; omega))
    have og11 := hide (og10.out.below hb11)
    have hng : Hid (ng = (foldRes rs).1.length) := hide og10.out.en.lenEq
    have hpg : Hid (pg = (foldRes rs).2.1.length) := hide og10.out.fl.lenEq
    have hqg : Hid (qg = (foldRes rs).2.2.length) := hide og10.out.la.lenEq
    have hgn : ng ≤ 1000 ∧ pg ≤ 1000 ∧ qg ≤ 1000 := by have h1 := hng.out; have h2 := hpg.out; have h3 := hqg.out; have h4 := hl.out; omega
    clear xx0 xx1 xx2 yy0 yy1 yy2 gw10 og10
    obtain ⟨xx0, xx1, xx2, -, -, -⟩ := hx611.cells
    go_wp2_with fail
    refine (markGame_c Ag ng Bg pg Eg qg u4.heap.size (foldRes rs) u11 og11.out (by omega) hl.out).mono ?_
    rintro e u12 ⟨rfl, om12, hlow12, hblk12⟩
    have hz12 := hlow12.size
    have hx412 := hx411.below hlow12 (by omega)
    have hx612 := hx611.keep (hblk12 u5.heap.size (by omega) (fun e => by have := (hog.out _ (.inl e)).2; omega) (fun e => by have := (hog.out _ (.inr (.inl e))).2; omega) (fun e => by have := (hog.out _ (.inr (.inr e))).2; omega))
    have gw12 := hide (gw11.out.below hlow12 (fun b hb => by rcases hb with hb | hb; exact hb.elim; have := hb.2; omega))
    have hB12 := hB11.trans (hlow12.mono (by omega))
    have om12h := hide om12
    clear xx0 xx1 xx2 gw11 og11 om12 hblk12
    obtain ⟨xx0, xx1, xx2, -, -, -⟩ := hx612.cells
    go_wp2_with fail
    refine (heldGame_c Ag ng Bg pg Eg qg u4.heap.size u12 om12h.out hgn.1 hgn.2.1 hgn.2.2).mono ?_
    rintro e u13 ⟨rfl, hb13⟩
    have hB13 := hB12.trans (hb13.mono (by omega))
    have hz13 := hb13.size
    have hx413 := hx412.below hb13 (by omega)
    have hx613 := hx612.below hb13 hx612.lt
    have gw13 := hide (gw12.out.below hb13 (fun b hb => by rcases hb with hb | hb; exact hb.elim; have := hb.2; omega))
    have om13 := hide (om12h.out.below hb13)
    have d3 : decide (1 + 5 * (ng : Int) + (pg : Int) + (qg : Int) < 0) = false := decide_eq_false (by omega)
    clear xx0 xx1 xx2 gw12 om12h
    go_wp2_with fail
    refine (kt.out _ hB13).mono ?_
    rintro e u14 ⟨v14, rfl, o14, hb14⟩
    obtain ⟨A14, c14, rfl, _, _, _⟩ := o14.form
    have hB14 := hB13.trans (hb14.mono (by omega))
    have hz14 := hb14.size
    have o14h := hide o14
    have hx414 := hx413.below hb14 (by omega)
    have hx614 := hx613.below hb14 (by omega)
    have gw14 := hide (gw13.out.below hb14 (fun b hb => by rcases hb with hb | hb; exact hb.elim; have := hb.2; omega))
    have om14 := hide (om13.out.below hb14)
    clear o14 gw13 om13
    go_wp2_with fail
    refine (GameFoldO_c A14 rs.length c14 u13.heap.size u14.heap.size rs u14 rfl hrl (o14h.out.slAt encReq_len).2.2 (o14h.out.rdn encReq_len) (Nat.le_refl _)).mono ?_
    rintro e u15 ⟨Ah, nh, Bh, ph, Eh, qh, rfl, oh, hb15⟩
    have hB15 := hB14.trans (hb15.mono (by omega))
    have hz15 := hb15.size
    have hA16 := (Below.refl u15.heap.size u15).alloc (Nat.le_refl _) (.cells #[.slice Ah nh nh, .slice Bh ph ph, .slice Eh qh qh] 27)
    have hx16 := Bx3.made u15 (.slice Ah nh nh) (.slice Bh ph ph) (.slice Eh qh qh) 27
    have hs16 : (u15.alloc (.cells #[.slice Ah nh nh, .slice Bh ph ph, .slice Eh qh qh] 27)).heap.size = u15.heap.size + 1 := by simp
    have h1416 := hb15.trans (hA16.mono hz15)
    have hz1416 := h1416.size
    have hB16 := hB15.trans (hA16.mono (by omega))
    have oh16 := hide (oh.below hA16)
    have hx416 := hx414.below h1416 (by omega)
    have hx616 := hx614.below h1416 (by omega)
    have gw16 := hide (gw14.out.below h1416 (fun b hb => by rcases hb with hb | hb; exact hb.elim; have := hb.2; omega))
    have om16 := hide (om14.out.below h1416)
    obtain ⟨zz0, zz1, zz2, -, -, -⟩ := hx16.cells
    obtain ⟨yy0, yy1, yy2, -, -, -⟩ := hx416.cells
    clear oh o14h gw14 om14
    go_wp2_with fail
    generalize u15.alloc (.cells #[.slice Ah nh nh, .slice Bh ph ph, .slice Eh qh qh] 27) = u16 at *
    refine (eqGame_c Ah nh nh Bh ph ph Eh qh qh Aw nw cw Bw pw dw Ew qw fw _ _ (foldRes rs) u16 oh16.out.gmD (fun b hb => hb.2) gw16.out (fun b hb => by rcases hb with hb | hb; exact hb.elim; have := hb.2; omega) hl.out).mono ?_
    rintro e u17 ⟨rfl, hb17⟩
    have hB17 := hB16.trans (hb17.mono (by omega))
    have hz17 := hb17.size
    have hx617 := hx616.below hb17 hx616.lt
    have om17 := hide (om16.out.below hb17)
    clear zz0 zz1 zz2 yy0 yy1 yy2 om16 oh16 gw16
    obtain ⟨xx0, xx1, xx2, -, -, -⟩ := hx617.cells
    go_wp2_with fail
    refine (heldGame_c Ag ng Bg pg Eg qg u4.heap.size u17 om17.out hgn.1 hgn.2.1 hgn.2.2).mono ?_
    rintro e u18 ⟨rfl, hb18⟩
    have hB18 := hB17.trans (hb18.mono (by omega))
    go_wp2_with fail
    go_ret
    exact ⟨rfl, hB18⟩
  · have d1 : decide ((-1 : Int) < 0) = true := by decide
    go_enter Try.func3, Try.ntmps3
    go_wp2_with fail
    refine (szReq_no A n c w hz hm).mono ?_
    rintro e u0 ⟨rfl, hB0⟩
    go_wp2
    go_ret
    exact ⟨rfl, hB0⟩
end Go.Proofs.Ytipdkcdhnppdoaa
